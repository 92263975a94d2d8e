/-
  The walks of kmodel.rho and kmodel.pi.
-/
import Derived.Test.YgcsalGreatKc2
set_option linter.unusedSimpArgs false
set_option linter.unusedVariables false
namespace Go.Own
/-- Cells o .. o + k - 1 taken from g at so. -/
def cpB (f : Nat → Bool) (o k : Nat) (g : Nat → Bool) (so : Nat) (j : Nat) : Bool := if o ≤ j ∧ j < o + k then g (so + (j - o)) else f j
theorem BA_copy {n o k so : Nat} {f g : Nat → Bool} (h : o + k ≤ n) : ((BA n f).toList.take o ++ ((List.range k).map fun i => Value.bool (g (so + i))) ++ (BA n f).toList.drop (o + ((List.range k).map fun i => Value.bool (g (so + i))).length)).toArray = BA n (cpB f o k g so) := by
  have hl : ((List.range k).map fun i => Value.bool (g (so + i))).length = k := by simp
  refine Array.ext_getElem? fun j => ?_
  rw [List.getElem?_toArray, hl, List.append_assoc]
  have hz : (BA n f).toList.length = n := by simp [BA_size]
  by_cases h1 : j < o
  · rw [List.getElem?_append_left (by rw [List.length_take, hz]; omega), List.getElem?_take_of_lt h1, Array.getElem?_toList, BA_get (by omega), BA_get (by omega), cpB, if_neg (by omega)]
  · rw [List.getElem?_append_right (by rw [List.length_take, hz]; omega), List.length_take, hz, Nat.min_eq_left (by omega)]
    by_cases h2 : j < o + k
    · rw [List.getElem?_append_left (by rw [hl]; omega), List.getElem?_map, List.getElem?_range (by omega), BA_get (by omega), cpB, if_pos (by omega)]
      rfl
    · rw [List.getElem?_append_right (by rw [hl]; omega), hl, List.getElem?_drop, Array.getElem?_toList, show o + k + (j - o - k) = j by omega]
      by_cases h3 : j < n
      · rw [BA_get h3, BA_get h3, cpB, if_neg (by omega)]
      · rw [Array.getElem?_eq_none (by rw [BA_size]; omega), Array.getElem?_eq_none (by rw [BA_size]; omega)]
section
variable {P : Program} {ops : Array Oper} {Q : Exit → Act → World → Prop} {rest : List Oper} {a : Act} {w w0 : World} {X : List Nat} {L1 L2 : List (Nat × Obj)}
theorem W_cpB {d : Tmp} {x y : Operand} {tx ty e ty' : TypeId} {b o k dCap b' so sCap t n t' n' : Nat} {f g : Nat → Bool} {pos : String} {after : Array Edge}
    (hx : a.eval x = .slice (some ⟨b, o, none⟩) k dCap) (hy : a.eval y = .slice (some ⟨b', so, none⟩) k sCap) (hu : P.underlying tx = some (.slice e)) (hs : (P.info? e).map (·.size) = some 1)
    (M : Mem w0 X (L1 ++ (b, RB t n f) :: L2) w) (hb : b ∈ X ∨ w0.heap.size ≤ b) (hr' : w.heap[b']? = some (RB t' n' g)) (h1 : o + k ≤ n) (h2 : so + k ≤ n')
    (K : ∀ w', Mem w0 X (L1 ++ (b, RB t n (cpB f o k g so)) :: L2) w' → wpList P ops Q rest (a.put (some d) (.int .i64 k)) w') :
    wpList P ops Q ({ dst := some d, op := .call { callee := .builtin .copy, args := #[x, y], argTypes := #[tx, ty] }, type := ty', pos := pos, after := after, guard := none } :: rest) a w := by
  have hl : ((List.range k).map fun i => Value.bool (g (so + i))).length = k := by simp
  refine W_copyAt (news := (List.range k).map fun i => Value.bool (g (so + i))) hx hy hu hs (M.row (by simp) : w.heap[b]? = some (RB t n f)) hr' (by simp) ?_ (by rw [hl, BA_size]; exact h1) ?_ fun w' K2 hr => ?_
  · intro j v hv
    have hj : j < k := by
      have := (List.getElem?_eq_some_iff.1 hv).1
      omega
    rw [BA_get (by omega)]
    rw [List.getElem?_map, List.getElem?_range hj] at hv
    exact hv
  · intro v hv
    simp at hv
    obtain ⟨i, _, rfl⟩ := hv
    rfl
  · rw [BA_copy h1] at hr
    rw [hl]
    exact K w' (Mem.callPut M hb K2 hr)
theorem run_sliceArrG {b o l h m N : Nat} {t e ty' : TypeId} {dst : Option Tmp} {x : Operand} {lo hi mx : Option Operand} {pos : String} {after : Array Edge} {g : Option (Nat × Bool)}
    (hx : a.eval x = .pointer (some ⟨b, o, none⟩)) (hu : P.underlying t = some (.array N e)) (hs : (P.info? e).map (·.size) = some 1)
    (hl : Bd a lo l 0) (hh : Bd a hi h N) (hm : Bd a mx m N) (hmx : mx = none ∨ hi.isSome = true) (h1 : l ≤ h) (h2 : h ≤ m) (h3 : m ≤ N) :
    (execOp a.eval { dst := dst, op := .slice t x lo hi mx, type := ty', pos := pos, after := after, guard := g }).run P w = .ok (.value (.slice (some ⟨b, if m = l then o else o + l, none⟩) (h - l) (m - l))) w := by
  have hsz : (sizeOf e).run P w = .ok 1 w := by
    cases hq : P.info? e with
    | none => simp [hq] at hs
    | some i => simp [sizeOf, typeInfo, hq] at hs ⊢; exact hs
  have hbounds : (Instr.sliceBounds false N N (lo.map a.eval) (hi.map a.eval) (mx.map a.eval)).run P w = .ok (l, h, m) w := by
    unfold Instr.sliceBounds
    rcases hm with ⟨rfl, rfl⟩ | ⟨xm, km, im, rfl, hm1, hm2⟩
    · rcases hh with ⟨rfl, rfl⟩ | ⟨xh, kh, ih, rfl, hh1, hh2⟩
      · rcases hl with ⟨rfl, rfl⟩ | ⟨xl, kl, il, rfl, hl1, hl2⟩
        · simp
        · simp [run_sliceBound _ hl1 hl2 h1]
      · rcases hl with ⟨rfl, rfl⟩ | ⟨xl, kl, il, rfl, hl1, hl2⟩
        · simp [run_sliceBound _ hh1 hh2 h2]
        · simp [run_sliceBound _ hh1 hh2 h2, run_sliceBound _ hl1 hl2 h1]
    · rcases hh with ⟨rfl, rfl⟩ | ⟨xh, kh, ih, rfl, hh1, hh2⟩
      · simp at hmx
      · rcases hl with ⟨rfl, rfl⟩ | ⟨xl, kl, il, rfl, hl1, hl2⟩
        · simp [run_sliceBound _ hm1 hm2 h3, run_sliceBound _ hh1 hh2 h2]
        · simp [run_sliceBound _ hm1 hm2 h3, run_sliceBound _ hh1 hh2 h2, run_sliceBound _ hl1 hl2 h1]
  have haddr : (if m = l then (⟨b, o, none⟩ : Addr) else (⟨b, o, none⟩ : Addr).add l) = ⟨b, if m = l then o else o + l, none⟩ := by
    split
    · rfl
    · rw [Addr.add_mid]
  simp [execOp, hx, Instr.sliceAt, Instr.sureAddr, Sem.run_bind, run_underlying hu, hbounds, hsz, haddr]
end
def rhoB (f : Nat → Bool) (j : Nat) : Bool := f (j / 320 * 320 + j / 64 % 5 * 64 + (j % 64 + 64 - offN (j / 320) (j / 64 % 5)) % 64)
def rhS (f : Nat → Bool) (x y : Nat) (j : Nat) : Bool := if j < x * 320 + y * 64 then rhoB f j else false
theorem off_lt : ∀ x, x < 5 → ∀ y, y < 5 → offN x y < 64 := by decide +kernel
theorem rhS_start (f : Nat → Bool) {j : Nat} : false = rhS f 0 0 j := by
  unfold rhS
  rw [if_neg (by omega)]
theorem rhS_end (f : Nat → Bool) {j : Nat} (h : j < 1600) : rhS f 5 0 j = rhoB f j := by
  unfold rhS
  rw [if_pos (by omega)]
theorem rhS_col (f : Nat → Bool) {x j : Nat} : rhS f x 5 j = rhS f (x + 1) 0 j := by
  unfold rhS
  rw [show x * 320 + 5 * 64 = (x + 1) * 320 + 0 * 64 by omega]
theorem rhS_step (f : Nat → Bool) {x y k so j : Nat} (hx : x < 5) (hy : y < 5) (hk : offN x y = k) (hk2 : k < 64) (hso : so = if 64 = 64 - k then x * 320 + y * 64 else x * 320 + y * 64 + (64 - k)) : cpB (cpB (rhS f x y) (x * 320 + y * 64 + k) (64 - k) f (x * 320 + y * 64)) (x * 320 + y * 64) k f so j = rhS f x (y + 1) j := by
  have e1 : j / 64 * 64 + j % 64 = j := by omega
  unfold cpB rhS
  by_cases h1 : j < x * 320 + y * 64
  · rw [if_neg (by omega), if_neg (by omega), if_pos h1, if_pos (by omega)]
  · by_cases h2 : j < x * 320 + (y + 1) * 64
    · have e2 : j / 64 = x * 5 + y := by omega
      have ex : j / 320 = x := by omega
      have ey : j / 64 % 5 = y := by omega
      by_cases h3 : j < x * 320 + y * 64 + k
      · rw [if_pos (by omega), if_pos h2, rhoB, ex, ey, hk, hso, if_neg (by omega)]
        exact congrArg f (by omega)
      · rw [if_neg (by omega), if_pos (by omega), if_pos h2, rhoB, ex, ey, hk]
        exact congrArg f (by omega)
    · rw [if_neg (by omega), if_neg (by omega), if_neg h1, if_neg h2]
theorem BA_extract {n m o : Nat} {f : Nat → Bool} (h : o + m ≤ n) : (BA n f).extract o (o + m) = BA m (fun i => f (o + i)) := by
  refine Array.ext_getElem? fun i => ?_
  rw [Array.getElem?_extract, BA_size, Nat.min_eq_left h]
  by_cases hi : i < m
  · rw [if_pos (by omega), BA_get (by omega), BA_get hi]
  · rw [if_neg (by omega), Array.getElem?_eq_none (by rw [BA_size]; omega)]
/-- Cells o .. o + m - 1 taken from g. -/
def laB (f : Nat → Bool) (o m : Nat) (g : Nat → Bool) (j : Nat) : Bool := if o ≤ j ∧ j < o + m then g (j - o) else f j
section
variable {P : Program} {ops : Array Oper} {Q : Exit → Act → World → Prop} {rest : List Oper} {a : Act} {w w0 : World} {X : List Nat} {L1 L2 : List (Nat × Obj)}
theorem splice_BA {n o m : Nat} {f g : Nat → Bool} (h : o + m ≤ n) : splice (BA n f) o (BA m g).toList = BA n (laB f o m g) := by
  have hz : (BA m g).toList.length = m := by simp [BA_size]
  refine Array.ext_getElem? fun j => ?_
  rw [splice_get _ _ _ _ (by rw [hz, BA_size]; exact h), hz]
  by_cases hj : o ≤ j ∧ j < o + m
  · rw [if_pos hj, Array.getElem?_toList, BA_get (by omega), BA_get (by omega), laB, if_pos hj]
  · rw [if_neg hj]
    by_cases hn : j < n
    · rw [BA_get hn, BA_get hn, laB, if_neg hj]
    · rw [Array.getElem?_eq_none (by rw [BA_size]; omega), Array.getElem?_eq_none (by rw [BA_size]; omega)]
theorem W_stL {b o t n N : Nat} {f g : Nat → Bool} {x y : Operand} {ty ty' : TypeId} {pos : String} {after : Array Edge}
    (hx : a.eval x = .pointer (some ⟨b, o, none⟩)) (hy : a.eval y = .agg (BA n g)) (M : Mem w0 X (L1 ++ (b, RB t N f) :: L2) w) (hb : b ∈ X ∨ w0.heap.size ≤ b)
    (hi : (P.info? ty).map (·.size) = some n) (hle : o + n ≤ N) (k : ∀ w', Mem w0 X (L1 ++ (b, RB t N (laB f o n g)) :: L2) w' → wpList P ops Q rest a w') :
    wpList P ops Q ({ dst := none, op := .store ty x y, type := ty', pos := pos, after := after, guard := none } :: rest) a w :=
  W_stP (b := b) (o := o) (n := n) (v := .agg (BA n g)) hx hy (M.row (by simp) : w.heap[b]? = some (RB t N f)) hi (BA_size n g) (BA_one n g) (by rw [BA_size]; exact hle) (splice_BA hle) fun w' K hr => k w' (Mem.callPut M hb K hr)
end
def piB (f : Nat → Bool) (j : Nat) : Bool := f ((j / 320 + 3 * (j / 64 % 5)) % 5 * 320 + j / 320 * 64 + j % 64)
def piS (f : Nat → Bool) (x y : Nat) (j : Nat) : Bool := if j < x * 320 + y * 64 then piB f j else false
theorem piS_start (f : Nat → Bool) {j : Nat} : false = piS f 0 0 j := by
  unfold piS
  rw [if_neg (by omega)]
theorem piS_end (f : Nat → Bool) {j : Nat} (h : j < 1600) : piS f 5 0 j = piB f j := by
  unfold piS
  rw [if_pos (by omega)]
theorem piS_col (f : Nat → Bool) {x j : Nat} : piS f x 5 j = piS f (x + 1) 0 j := by
  unfold piS
  rw [show x * 320 + 5 * 64 = (x + 1) * 320 + 0 * 64 by omega]
theorem piS_step (f : Nat → Bool) {x y j : Nat} (hx : x < 5) (hy : y < 5) : laB (piS f x y) (x * 320 + y * 64) 64 (fun i => f ((x + 3 * y) % 5 * 320 + x * 64 + i)) j = piS f x (y + 1) j := by
  unfold laB piS
  by_cases h1 : j < x * 320 + y * 64
  · rw [if_neg (by omega), if_pos h1, if_pos (by omega)]
  · by_cases h2 : j < x * 320 + (y + 1) * 64
    · have e2 : j / 64 = x * 5 + y := by omega
      have ex : j / 320 = x := by omega
      have ey : j / 64 % 5 = y := by omega
      rw [if_pos (by omega), if_pos h2, piB, ex, ey]
      exact congrArg f (by omega)
    · rw [if_neg (by omega), if_neg h1, if_neg h2]
end Go.Own
namespace Go.Proofs.YgcsalGreat
open Go.RowKit Go.Own
set_option maxRecDepth 100000 in
theorem zero284 : ((Salg.prog.info? 284).bind (·.zero)) = some (.agg (BA 1600 fun _ => false)) := by kernel_rfl
theorem size281 : (Salg.prog.info? 281).map (·.size) = some 64 := by kernel_rfl
theorem size284 : (Salg.prog.info? 284).map (·.size) = some 1600 := by kernel_rfl

set_option maxHeartbeats 4000000 in
set_option maxRecDepth 100000 in
theorem rho_any (b t : Nat) (f : Nat → Bool) (w : World) (hr : w.heap[b]? = some (RB t 1600 f)) : Calls Salg.prog 236 #[.pointer (some ⟨b, 0, none⟩)] w fun e w' => e = .returned (.agg (BA 1600 (rhoB f))) ∧ Kept [] w w' := by
  have M := (Mem.start w []).add hr (by simp)
  have HOF := hid (fun x y (hx : x < 5) (hy : y < 5) w' => offset_any x y w' hx hy)
  have HOL := hid off_lt
  clear hr
  go_enter Salg.func236, Salg.ntmps236
  go_wp2_with ((with_reducible apply L_allocA (d := 2) M); exact zero284; clear M; intro b2 w1 hb2 M; simp only [Act.put, List.setIfInBounds_toArray, List.set_cons_zero, List.set_cons_succ])
  have hb2x : b2 ∈ ([] : List Nat) ∨ w.heap.size ≤ b2 := Or.inr hb2
  go_loopw [6] (fun iv wr => ∃ x : Nat, x ≤ 5 ∧ iv = .int .i64 (x : Int) ∧ Mem w [] [(b2, RB 284 1600 (rhS f x 0)), (b, RB t 1600 f)] wr) (fun iv _ => (5 - intOf iv).toNat)
  case atStart => exact ⟨0, by omega, rfl, Mem.rb0 M fun i hi => rhS_start f⟩
  case round =>
    clear M
    obtain ⟨x, hx, rfl, M⟩ := hrel
    rcases Nat.lt_or_ge x 5 with hlt | hge
    · have d1 : decide ((x : Int) < 5) = true := by simp; omega
      go_wp2_with fail
      (try simp only [d1])
      clear d1
      go_loopw [9] (fun iv wr => ∃ y : Nat, y ≤ 5 ∧ iv = .int .i64 (y : Int) ∧ Mem w [] [(b2, RB 284 1600 (rhS f x y)), (b, RB t 1600 f)] wr) (fun iv _ => (5 - intOf iv).toNat)
      case atStart => exact ⟨0, by omega, rfl, M⟩
      case round =>
        clear M
        obtain ⟨y, hy, rfl, M⟩ := hrel
        rcases Nat.lt_or_ge y 5 with hly | hgy
        · have HCO := hid (fun w' => HOF.out x y hlt hly w')
          have hk : offN x y < 64 := HOL.out x hlt y hly
          have HK : Hid (offN x y = offN x y) := rfl
          generalize hkk : offN x y = k at *
          have HKK := hid hkk
          clear hkk HK
          obtain ⟨so, hso⟩ : ∃ so, so = if 64 = 64 - k then x * 320 + y * 64 else x * 320 + y * 64 + (64 - k) := ⟨_, rfl⟩
          have hsk : so + k ≤ 1600 := by
            rw [hso]
            split <;> omega
          have HSO := hid hso
          clear hso
          go_wp2_with fail
          refine (HCO.out _).mono ?_
          rintro e w3 ⟨rfl, rfl⟩
          go_wp2_with fail
          refine S_region (by kernel_rfl) ?_
          refine V_quiet 0 15 (by kernel_rfl) (by decide) M.drew ?_
          clear M
          simp only [List.take_succ_cons, List.take_zero, List.drop_zero, List.drop_succ_cons, Nat.sub_zero, Nat.reduceSub]
          ((with_reducible apply V_run); rfl; (intro w M; go_simp; (try go_ints); (try simp only [↓IntWalk.iteOmega]); (try with_reducible rfl)); simp only [Act.put, List.setIfInBounds_toArray, List.set_cons_zero, List.set_cons_succ])
          ((with_reducible apply V_run); rfl; (intro w M; go_simp; (try go_ints); (try simp only [↓IntWalk.iteOmega]); (try with_reducible rfl)); simp only [Act.put, List.setIfInBounds_toArray, List.set_cons_zero, List.set_cons_succ])
          ((with_reducible apply V_run); rfl; (intro w M; go_simp; (try go_ints); (try simp only [↓IntWalk.iteOmega]); (try with_reducible rfl)); simp only [Act.put, List.setIfInBounds_toArray, List.set_cons_zero, List.set_cons_succ])
          ((with_reducible apply V_run); rfl; (intro w M; go_simp; (try go_ints); (try simp only [↓IntWalk.iteOmega]); (try with_reducible rfl)); simp only [Act.put, List.setIfInBounds_toArray, List.set_cons_zero, List.set_cons_succ])
          ((with_reducible apply V_run); rfl; (intro w M; go_simp; (try go_ints); (try simp only [↓IntWalk.iteOmega]); (try with_reducible rfl)); simp only [Act.put, List.setIfInBounds_toArray, List.set_cons_zero, List.set_cons_succ])
          ((with_reducible apply V_run); rfl; (intro w M; exact run_sliceArr (l := k) (h := 64) (m := 64) rfl Salg.underlying281 size4 (by (first | exact Or.inl ⟨rfl, rfl⟩ | exact Or.inr ⟨_, _, _, rfl, rfl, by omega⟩)) (by (first | exact Or.inl ⟨rfl, rfl⟩ | exact Or.inr ⟨_, _, _, rfl, rfl, by omega⟩)) (by (first | exact Or.inl ⟨rfl, rfl⟩ | exact Or.inr ⟨_, _, _, rfl, rfl, by omega⟩)) (by first | exact Or.inl rfl | exact Or.inr rfl) (by omega) (by omega) (by omega) (by omega)); (try simp only [Nat.zero_add, Nat.sub_zero]); simp only [Act.put, List.setIfInBounds_toArray, List.set_cons_zero, List.set_cons_succ])
          ((with_reducible apply V_run); rfl; (intro w M; go_simp; (try go_ints); (try simp only [↓IntWalk.iteOmega]); (try with_reducible rfl)); simp only [Act.put, List.setIfInBounds_toArray, List.set_cons_zero, List.set_cons_succ])
          ((with_reducible apply V_run); rfl; (intro w M; go_simp; (try go_ints); (try simp only [↓IntWalk.iteOmega]); (try with_reducible rfl)); simp only [Act.put, List.setIfInBounds_toArray, List.set_cons_zero, List.set_cons_succ])
          ((with_reducible apply V_run); rfl; (intro w M; go_simp; (try go_ints); (try simp only [↓IntWalk.iteOmega]); (try with_reducible rfl)); simp only [Act.put, List.setIfInBounds_toArray, List.set_cons_zero, List.set_cons_succ])
          ((with_reducible apply V_run); rfl; (intro w M; go_simp; (try go_ints); (try simp only [↓IntWalk.iteOmega]); (try with_reducible rfl)); simp only [Act.put, List.setIfInBounds_toArray, List.set_cons_zero, List.set_cons_succ])
          ((with_reducible apply V_run); rfl; (intro w M; go_simp; (try go_ints); (try simp only [↓IntWalk.iteOmega]); (try with_reducible rfl)); simp only [Act.put, List.setIfInBounds_toArray, List.set_cons_zero, List.set_cons_succ])
          ((with_reducible apply V_run); rfl; (intro w M; go_simp; (try go_ints); (try simp only [↓IntWalk.iteOmega]); (try with_reducible rfl)); simp only [Act.put, List.setIfInBounds_toArray, List.set_cons_zero, List.set_cons_succ])
          ((with_reducible apply V_run); rfl; (intro w M; go_simp; (try go_ints); (try simp only [↓IntWalk.iteOmega]); (try with_reducible rfl)); simp only [Act.put, List.setIfInBounds_toArray, List.set_cons_zero, List.set_cons_succ])
          ((with_reducible apply V_run); rfl; (intro w M; go_simp; (try go_ints); (try simp only [↓IntWalk.iteOmega]); (try with_reducible rfl)); simp only [Act.put, List.setIfInBounds_toArray, List.set_cons_zero, List.set_cons_succ])
          ((with_reducible apply V_run); rfl; (intro w M; exact run_sliceArr (l := 0) (h := 64 - k) (m := 64) rfl Salg.underlying281 size4 (by (first | exact Or.inl ⟨rfl, rfl⟩ | exact Or.inr ⟨_, _, _, rfl, rfl, by omega⟩)) (by (first | exact Or.inl ⟨rfl, rfl⟩ | exact Or.inr ⟨_, _, _, rfl, rfl, by omega⟩)) (by (first | exact Or.inl ⟨rfl, rfl⟩ | exact Or.inr ⟨_, _, _, rfl, rfl, by omega⟩)) (by first | exact Or.inl rfl | exact Or.inr rfl) (by omega) (by omega) (by omega) (by omega)); (try simp only [Nat.zero_add, Nat.sub_zero]); simp only [Act.put, List.setIfInBounds_toArray, List.set_cons_zero, List.set_cons_succ])
          refine V_nil ?_
          intro w4 M
          refine S_seg 15 16 (by kernel_rfl) (by decide) ?_
          simp only [List.take_succ_cons, List.take_zero, List.drop_zero, List.drop_succ_cons, Nat.sub_zero, Nat.reduceSub]
          go_wp2_with ((with_reducible apply W_cpB (L1 := []) (b := b2) (o := x * 320 + y * 64 + k) (k := 64 - k) (b' := b) (so := x * 320 + y * 64) (g := f)); rfl; rfl; exact Salg.underlying258; exact size4; exact M; exact hb2x; exact M.r1; omega; omega; clear M; intro w5 M; simp only [List.cons_append, List.nil_append] at M; simp only [Act.put, List.setIfInBounds_toArray, List.set_cons_zero, List.set_cons_succ])
          refine S_done ?_
          go_wp2_with fail
          refine S_region (by kernel_rfl) ?_
          refine V_quiet 0 15 (by kernel_rfl) (by decide) M.drew ?_
          clear M
          simp only [List.take_succ_cons, List.take_zero, List.drop_zero, List.drop_succ_cons, Nat.sub_zero, Nat.reduceSub]
          ((with_reducible apply V_run); rfl; (intro w M; go_simp; (try go_ints); (try simp only [↓IntWalk.iteOmega]); (try with_reducible rfl)); simp only [Act.put, List.setIfInBounds_toArray, List.set_cons_zero, List.set_cons_succ])
          ((with_reducible apply V_run); rfl; (intro w M; go_simp; (try go_ints); (try simp only [↓IntWalk.iteOmega]); (try with_reducible rfl)); simp only [Act.put, List.setIfInBounds_toArray, List.set_cons_zero, List.set_cons_succ])
          ((with_reducible apply V_run); rfl; (intro w M; go_simp; (try go_ints); (try simp only [↓IntWalk.iteOmega]); (try with_reducible rfl)); simp only [Act.put, List.setIfInBounds_toArray, List.set_cons_zero, List.set_cons_succ])
          ((with_reducible apply V_run); rfl; (intro w M; go_simp; (try go_ints); (try simp only [↓IntWalk.iteOmega]); (try with_reducible rfl)); simp only [Act.put, List.setIfInBounds_toArray, List.set_cons_zero, List.set_cons_succ])
          ((with_reducible apply V_run); rfl; (intro w M; go_simp; (try go_ints); (try simp only [↓IntWalk.iteOmega]); (try with_reducible rfl)); simp only [Act.put, List.setIfInBounds_toArray, List.set_cons_zero, List.set_cons_succ])
          ((with_reducible apply V_run); rfl; (intro w M; exact run_sliceArr (l := 0) (h := k) (m := 64) rfl Salg.underlying281 size4 (by (first | exact Or.inl ⟨rfl, rfl⟩ | exact Or.inr ⟨_, _, _, rfl, rfl, by omega⟩)) (by (first | exact Or.inl ⟨rfl, rfl⟩ | exact Or.inr ⟨_, _, _, rfl, rfl, by omega⟩)) (by (first | exact Or.inl ⟨rfl, rfl⟩ | exact Or.inr ⟨_, _, _, rfl, rfl, by omega⟩)) (by first | exact Or.inl rfl | exact Or.inr rfl) (by omega) (by omega) (by omega) (by omega)); (try simp only [Nat.zero_add, Nat.sub_zero]); simp only [Act.put, List.setIfInBounds_toArray, List.set_cons_zero, List.set_cons_succ])
          ((with_reducible apply V_run); rfl; (intro w M; go_simp; (try go_ints); (try simp only [↓IntWalk.iteOmega]); (try with_reducible rfl)); simp only [Act.put, List.setIfInBounds_toArray, List.set_cons_zero, List.set_cons_succ])
          ((with_reducible apply V_run); rfl; (intro w M; go_simp; (try go_ints); (try simp only [↓IntWalk.iteOmega]); (try with_reducible rfl)); simp only [Act.put, List.setIfInBounds_toArray, List.set_cons_zero, List.set_cons_succ])
          ((with_reducible apply V_run); rfl; (intro w M; go_simp; (try go_ints); (try simp only [↓IntWalk.iteOmega]); (try with_reducible rfl)); simp only [Act.put, List.setIfInBounds_toArray, List.set_cons_zero, List.set_cons_succ])
          ((with_reducible apply V_run); rfl; (intro w M; go_simp; (try go_ints); (try simp only [↓IntWalk.iteOmega]); (try with_reducible rfl)); simp only [Act.put, List.setIfInBounds_toArray, List.set_cons_zero, List.set_cons_succ])
          ((with_reducible apply V_run); rfl; (intro w M; go_simp; (try go_ints); (try simp only [↓IntWalk.iteOmega]); (try with_reducible rfl)); simp only [Act.put, List.setIfInBounds_toArray, List.set_cons_zero, List.set_cons_succ])
          ((with_reducible apply V_run); rfl; (intro w M; go_simp; (try go_ints); (try simp only [↓IntWalk.iteOmega]); (try with_reducible rfl)); simp only [Act.put, List.setIfInBounds_toArray, List.set_cons_zero, List.set_cons_succ])
          ((with_reducible apply V_run); rfl; (intro w M; go_simp; (try go_ints); (try simp only [↓IntWalk.iteOmega]); (try with_reducible rfl)); simp only [Act.put, List.setIfInBounds_toArray, List.set_cons_zero, List.set_cons_succ])
          ((with_reducible apply V_run); rfl; (intro w M; go_simp; (try go_ints); (try simp only [↓IntWalk.iteOmega]); (try with_reducible rfl)); simp only [Act.put, List.setIfInBounds_toArray, List.set_cons_zero, List.set_cons_succ])
          ((with_reducible apply V_run (v := .slice (some ⟨b, so, none⟩) k k)); rfl; (intro w M; refine (run_sliceArrG (l := 64 - k) (h := 64) (m := 64) (b := b) (o := x * 320 + y * 64) rfl Salg.underlying281 size4 (by (first | exact Or.inl ⟨rfl, rfl⟩ | exact Or.inr ⟨_, _, _, rfl, rfl, by omega⟩)) (by (first | exact Or.inl ⟨rfl, rfl⟩ | exact Or.inr ⟨_, _, _, rfl, rfl, by omega⟩)) (by (first | exact Or.inl ⟨rfl, rfl⟩ | exact Or.inr ⟨_, _, _, rfl, rfl, by omega⟩)) (by first | exact Or.inl rfl | exact Or.inr rfl) (by omega) (by omega) (by omega)).trans ?_; rw [show 64 - (64 - k) = k by omega, ← HSO.out]); simp only [Act.put, List.setIfInBounds_toArray, List.set_cons_zero, List.set_cons_succ])
          refine V_nil ?_
          intro w4 M
          refine S_seg 15 16 (by kernel_rfl) (by decide) ?_
          simp only [List.take_succ_cons, List.take_zero, List.drop_zero, List.drop_succ_cons, Nat.sub_zero, Nat.reduceSub]
          go_wp2_with ((with_reducible apply W_cpB (L1 := []) (b := b2) (o := x * 320 + y * 64) (k := k) (b' := b) (so := so) (g := f)); rfl; rfl; exact Salg.underlying258; exact size4; exact M; exact hb2x; exact M.r1; omega; omega; clear M; intro w5 M; simp only [List.cons_append, List.nil_append] at M; simp only [Act.put, List.setIfInBounds_toArray, List.set_cons_zero, List.set_cons_succ])
          refine S_done ?_
          go_wp2_with fail
          replace M := Mem.rb0 M fun j hj => rhS_step f (x := x) (y := y) (k := k) (so := so) (j := j) hlt hly HKK.out hk HSO.out
          go_roundw
          case rel => exact ⟨y + 1, by omega, by go_num, M⟩
          case measure => simp [intOf]; omega
        · have e : y = 5 := by omega
          subst e
          replace M := Mem.rb0 M fun j hj => rhS_col f (x := x) (j := j)
          go_wp2_with fail
          go_roundw
          case rel => exact ⟨x + 1, by omega, by go_num, M⟩
          case measure => simp [intOf]; omega
    · have e : x = 5 := by omega
      subst e
      replace M := Mem.rb0 M fun j hj => rhS_end f hj
      go_wp2_with (first
        | ((with_reducible apply W_loadAll); rfl; exact M.r0; exact Salg.underlying284; rfl; (rw [BA_size]; exact size284); simp only [Act.put, List.setIfInBounds_toArray, List.set_cons_zero, List.set_cons_succ])
        | ((with_reducible apply W_storeK (b := b2) (vs := BA 1600 (rhoB f))); rfl; rfl; exact M.r0; (rw [BA_size]; exact size284); exact (BA_size _ _).trans (BA_size _ _).symm; exact BA_one _ _; intro w6 K hr3; replace M := Mem.callPut (L1 := []) (o' := RB 284 1600 (rhoB f)) M hb2x K hr3; clear K hr3; simp only [List.cons_append, List.nil_append] at M))
      exact ret_cell1 Salg.results236 rfl M.r0 Salg.underlying284 rfl (by rw [BA_size]; exact size284) rfl ⟨rfl, M.kept⟩

set_option maxHeartbeats 4000000 in
set_option maxRecDepth 100000 in
theorem pi_any (b t : Nat) (f : Nat → Bool) (w : World) (hr : w.heap[b]? = some (RB t 1600 f)) : Calls Salg.prog 237 #[.pointer (some ⟨b, 0, none⟩)] w fun e w' => e = .returned (.agg (BA 1600 (piB f))) ∧ Kept [] w w' := by
  have M := (Mem.start w []).add hr (by simp)
  clear hr
  go_enter Salg.func237, Salg.ntmps237
  go_wp2_with ((with_reducible apply L_allocA (d := 2) M); exact zero284; clear M; intro b2 w1 hb2 M; simp only [Act.put, List.setIfInBounds_toArray, List.set_cons_zero, List.set_cons_succ])
  have hb2x : b2 ∈ ([] : List Nat) ∨ w.heap.size ≤ b2 := Or.inr hb2
  go_loopw [5] (fun iv wr => ∃ x : Nat, x ≤ 5 ∧ iv = .int .i64 (x : Int) ∧ Mem w [] [(b2, RB 284 1600 (piS f x 0)), (b, RB t 1600 f)] wr) (fun iv _ => (5 - intOf iv).toNat)
  case atStart => exact ⟨0, by omega, rfl, Mem.rb0 M fun i hi => piS_start f⟩
  case round =>
    clear M
    obtain ⟨x, hx, rfl, M⟩ := hrel
    rcases Nat.lt_or_ge x 5 with hlt | hge
    · go_wp2_with fail
      go_loopw [8] (fun iv wr => ∃ y : Nat, y ≤ 5 ∧ iv = .int .i64 (y : Int) ∧ Mem w [] [(b2, RB 284 1600 (piS f x y)), (b, RB t 1600 f)] wr) (fun iv _ => (5 - intOf iv).toNat)
      case atStart => exact ⟨0, by omega, rfl, M⟩
      case round =>
        clear M
        obtain ⟨y, hy, rfl, M⟩ := hrel
        rcases Nat.lt_or_ge y 5 with hly | hgy
        · go_wp2_with fail
          refine S_region (by kernel_rfl) ?_
          refine V_quiet 0 15 (by kernel_rfl) (by decide) M.drew ?_
          clear M
          simp only [List.take_succ_cons, List.take_zero, List.drop_zero, List.drop_succ_cons, Nat.sub_zero, Nat.reduceSub]
          ((with_reducible apply V_run); rfl; (intro w M; go_simp; (try go_ints); (try simp only [↓IntWalk.iteOmega]); (try with_reducible rfl)); simp only [Act.put, List.setIfInBounds_toArray, List.set_cons_zero, List.set_cons_succ])
          ((with_reducible apply V_run); rfl; (intro w M; go_simp; (try go_ints); (try simp only [↓IntWalk.iteOmega]); (try with_reducible rfl)); simp only [Act.put, List.setIfInBounds_toArray, List.set_cons_zero, List.set_cons_succ])
          ((with_reducible apply V_run); rfl; (intro w M; go_simp; (try go_ints); (try simp only [↓IntWalk.iteOmega]); (try with_reducible rfl)); simp only [Act.put, List.setIfInBounds_toArray, List.set_cons_zero, List.set_cons_succ])
          ((with_reducible apply V_run); rfl; (intro w M; go_simp; (try go_ints); (try simp only [↓IntWalk.iteOmega]); (try with_reducible rfl)); simp only [Act.put, List.setIfInBounds_toArray, List.set_cons_zero, List.set_cons_succ])
          ((with_reducible apply V_run); rfl; (intro w M; go_simp; (try go_ints); (try simp only [↓IntWalk.iteOmega]); (try with_reducible rfl)); simp only [Act.put, List.setIfInBounds_toArray, List.set_cons_zero, List.set_cons_succ])
          ((with_reducible apply V_run); rfl; (intro w M; go_simp; (try go_ints); (try simp only [↓IntWalk.iteOmega]); (try with_reducible rfl)); simp only [Act.put, List.setIfInBounds_toArray, List.set_cons_zero, List.set_cons_succ])
          ((with_reducible apply V_run); rfl; (intro w M; go_simp; (try go_ints); (try simp only [↓IntWalk.iteOmega]); (try with_reducible rfl)); simp only [Act.put, List.setIfInBounds_toArray, List.set_cons_zero, List.set_cons_succ])
          ((with_reducible apply V_run); rfl; (intro w M; go_simp; (try go_ints); (try simp only [↓IntWalk.iteOmega]); (try with_reducible rfl)); simp only [Act.put, List.setIfInBounds_toArray, List.set_cons_zero, List.set_cons_succ])
          ((with_reducible apply V_run); rfl; (intro w M; go_simp; (try go_ints); (try simp only [↓IntWalk.iteOmega]); (try with_reducible rfl)); simp only [Act.put, List.setIfInBounds_toArray, List.set_cons_zero, List.set_cons_succ])
          ((with_reducible apply V_run); rfl; (intro w M; go_simp; (try go_ints); (try simp only [↓IntWalk.iteOmega]); (try with_reducible rfl)); simp only [Act.put, List.setIfInBounds_toArray, List.set_cons_zero, List.set_cons_succ])
          ((with_reducible apply V_run); rfl; (intro w M; go_simp; (try go_ints); (try simp only [↓IntWalk.iteOmega]); (try with_reducible rfl)); simp only [Act.put, List.setIfInBounds_toArray, List.set_cons_zero, List.set_cons_succ])
          ((with_reducible apply V_run); rfl; (intro w M; go_simp; (try go_ints); (try simp only [↓IntWalk.iteOmega]); (try with_reducible rfl)); simp only [Act.put, List.setIfInBounds_toArray, List.set_cons_zero, List.set_cons_succ])
          ((with_reducible apply V_run); rfl; (intro w M; exact run_loadX (o := (x + 3 * y) % 5 * 320 + x * 64) M.r1 (by rfl) Salg.underlying281 rfl size281 (by rw [BA_size]; omega) (BA_extract (by omega))); simp only [Act.put, List.setIfInBounds_toArray, List.set_cons_zero, List.set_cons_succ])
          ((with_reducible apply V_run); rfl; (intro w M; go_simp; (try go_ints); (try simp only [↓IntWalk.iteOmega]); (try with_reducible rfl)); simp only [Act.put, List.setIfInBounds_toArray, List.set_cons_zero, List.set_cons_succ])
          ((with_reducible apply V_run); rfl; (intro w M; go_simp; (try go_ints); (try simp only [↓IntWalk.iteOmega]); (try with_reducible rfl)); simp only [Act.put, List.setIfInBounds_toArray, List.set_cons_zero, List.set_cons_succ])
          refine V_nil ?_
          intro w4 M
          refine S_seg 15 16 (by kernel_rfl) (by decide) ?_
          simp only [List.take_succ_cons, List.take_zero, List.drop_zero, List.drop_succ_cons, Nat.sub_zero, Nat.reduceSub]
          go_wp2_with ((with_reducible apply W_stL (L1 := []) (b := b2) (o := x * 320 + y * 64) (n := 64)); rfl; rfl; exact M; exact hb2x; exact size281; omega; clear M; intro w5 M; simp only [List.cons_append, List.nil_append] at M)
          refine S_done ?_
          replace M := Mem.rb0 M fun j hj => piS_step f (x := x) (y := y) (j := j) hlt hly
          go_wp2_with fail
          go_roundw
          case rel => exact ⟨y + 1, by omega, by go_num, M⟩
          case measure => simp [intOf]; omega
        · have e : y = 5 := by omega
          subst e
          replace M := Mem.rb0 M fun j hj => piS_col f (x := x) (j := j)
          go_wp2_with fail
          go_roundw
          case rel => exact ⟨x + 1, by omega, by go_num, M⟩
          case measure => simp [intOf]; omega
    · have e : x = 5 := by omega
      subst e
      replace M := Mem.rb0 M fun j hj => piS_end f hj
      go_wp2_with (first
        | ((with_reducible apply W_loadAll); rfl; exact M.r0; exact Salg.underlying284; rfl; (rw [BA_size]; exact size284); simp only [Act.put, List.setIfInBounds_toArray, List.set_cons_zero, List.set_cons_succ])
        | ((with_reducible apply W_storeK (b := b2) (vs := BA 1600 (piB f))); rfl; rfl; exact M.r0; (rw [BA_size]; exact size284); exact (BA_size _ _).trans (BA_size _ _).symm; exact BA_one _ _; intro w6 K hr3; replace M := Mem.callPut (L1 := []) (o' := RB 284 1600 (piB f)) M hb2x K hr3; clear K hr3; simp only [List.cons_append, List.nil_append] at M))
      exact ret_cell1 Salg.results237 rfl M.r0 Salg.underlying284 rfl (by rw [BA_size]; exact size284) rfl ⟨rfl, M.kept⟩
end Go.Proofs.YgcsalGreat

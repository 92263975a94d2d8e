/-
  Rows of bools; the walks of kmodel.bit, turn, Const, Offset.
-/
import Derived.Test.YgcsalGreatMv34
set_option linter.unusedSimpArgs false
set_option linter.unusedVariables false
namespace Go.Own
/-- A row of n bools. -/
def BA (n : Nat) (f : Nat → Bool) : Array Value := ((List.range n).map fun i => Value.bool (f i)).toArray
def RB (t n : Nat) (f : Nat → Bool) : Obj := .cells (BA n f) t (0, 0)
def upd (f : Nat → Bool) (i : Nat) (b : Bool) : Nat → Bool := fun j => if j = i then b else f j
theorem BA_size (n : Nat) (f : Nat → Bool) : (BA n f).size = n := by simp [BA]
theorem BA_get {n : Nat} {f : Nat → Bool} {i : Nat} (h : i < n) : (BA n f)[i]? = some (.bool (f i)) := by
  simp [BA, List.getElem?_range h]
theorem BA_congr {n : Nat} {f g : Nat → Bool} (h : ∀ i, i < n → f i = g i) : BA n f = BA n g := by
  unfold BA
  congr 1
  refine List.map_congr_left fun i hi => ?_
  rw [h i (by simpa using hi)]
theorem RB_congr {t n : Nat} {f g : Nat → Bool} (h : ∀ i, i < n → f i = g i) : RB t n f = RB t n g := by
  unfold RB
  rw [BA_congr h]
theorem BA_set {n : Nat} {f : Nat → Bool} {i : Nat} {b : Bool} (h : i < n) : (BA n f).setIfInBounds i (.bool b) = BA n (upd f i b) := by
  refine Array.ext_getElem? fun j => ?_
  rw [Array.getElem?_setIfInBounds]
  by_cases hj : j < n
  · by_cases hij : i = j
    · subst hij
      rw [if_pos rfl, if_pos (by rw [BA_size]; exact h), BA_get hj]
      simp [upd]
    · have h2 : ¬ j = i := fun e => hij e.symm
      simp [hij, h2, upd, BA_get hj]
  · rw [Array.getElem?_eq_none (by rw [BA_size]; omega), Array.getElem?_eq_none (by rw [BA_size]; omega)]
    split
    · split
      · rw [BA_size] at *
        omega
      · rfl
    · rfl
theorem BA_one (n : Nat) (f : Nat → Bool) : ∀ v ∈ (BA n f).toList, v.oneCell' = true := by
  intro v hv
  simp [BA] at hv
  obtain ⟨i, _, rfl⟩ := hv
  rfl
theorem Mem.rb {w0 w : World} {X : List Nat} {L1 L2 : List (Nat × Obj)} {b t n : Nat} {f g : Nat → Bool} (M : Mem w0 X (L1 ++ (b, RB t n f) :: L2) w) (h : ∀ i, i < n → f i = g i) : Mem w0 X (L1 ++ (b, RB t n g) :: L2) w := by
  rw [← RB_congr h]
  exact M
theorem Mem.rb0 {w0 w : World} {X : List Nat} {L2 : List (Nat × Obj)} {b t n : Nat} {f g : Nat → Bool} (M : Mem w0 X ((b, RB t n f) :: L2) w) (h : ∀ i, i < n → f i = g i) : Mem w0 X ((b, RB t n g) :: L2) w := Mem.rb (L1 := []) M h
theorem Mem.rb1 {w0 w : World} {X : List Nat} {p : Nat × Obj} {L2 : List (Nat × Obj)} {b t n : Nat} {f g : Nat → Bool} (M : Mem w0 X (p :: (b, RB t n f) :: L2) w) (h : ∀ i, i < n → f i = g i) : Mem w0 X (p :: (b, RB t n g) :: L2) w := Mem.rb (L1 := [p]) M h
section
variable {P : Program} {ops : Array Oper} {Q : Exit → Act → World → Prop} {rest : List Oper} {a : Act} {w w0 : World} {X : List Nat} {L1 L2 : List (Nat × Obj)}
theorem W_stB {b o t n : Nat} {f : Nat → Bool} {v : Bool} {x y : Operand} {ty ty' : TypeId} {pos : String} {after : Array Edge}
    (hx : a.eval x = .pointer (some ⟨b, o, none⟩)) (hy : a.eval y = .bool v) (M : Mem w0 X (L1 ++ (b, RB t n f) :: L2) w) (hb : b ∈ X ∨ w0.heap.size ≤ b)
    (hi : (P.info? ty).map (·.size) = some 1) (hle : o < n) (k : ∀ w', Mem w0 X (L1 ++ (b, RB t n (upd f o v)) :: L2) w' → wpList P ops Q rest a w') :
    wpList P ops Q ({ dst := none, op := .store ty x y, type := ty', pos := pos, after := after, guard := none } :: rest) a w := by
  refine W_stV (b := b) (o := o) (v := .bool v) hx hy rfl (M.row (by simp) : w.heap[b]? = some (RB t n f)) hi (by rw [BA_size]; exact hle) fun w' K hr => k w' ?_
  rw [BA_set hle] at hr
  exact Mem.callPut M hb K hr
theorem run_loadB {b i t n : Nat} {f : Nat → Bool} {dst : Option Tmp} {x : Operand} {ty ty' : TypeId} {pos : String} {after : Array Edge} {g : Option (Nat × Bool)} {d : TypeDesc}
    (h : w.heap[b]? = some (RB t n f)) (hx : a.eval x = .pointer (some ⟨b, i, none⟩)) (hi : i < n) (hu : P.underlying ty = some d) (hd : d.isRow = false := by rfl) :
    (execOp a.eval { dst := dst, op := .load ty x, type := ty', pos := pos, after := after, guard := g }).run P w = .ok (.value (.bool (f i))) w :=
  run_loadCell h hx (BA_get hi) hu hd
end
/-- The register after one turn. -/
def turnB (f : Nat → Bool) (j : Nat) : Bool := if j = 0 then f 7 else if j = 4 ∨ j = 5 ∨ j = 6 then f (j - 1) != f 7 else f (j - 1)
def regB : Nat → Nat → Bool
  | 0 => fun j => j == 0
  | k + 1 => turnB (regB k)
def constN (i : Nat) : Nat → Nat
  | 0 => 0
  | j + 1 => if regB (7 * i + j) 0 then constN i j ||| 2 ^ (2 ^ j - 1) else constN i j
theorem constN_lt (i : Nat) : ∀ j, j < 7 → constN i j < 2 ^ 64
  | 0, _ => by simp [constN]
  | j + 1, h => by
    have ih := constN_lt i j (by omega)
    rw [constN]
    split
    · refine Nat.or_lt_two_pow ih ?_
      refine Nat.pow_lt_pow_right (by decide) ?_
      have : 2 ^ j ≤ 2 ^ 5 := Nat.pow_le_pow_right (by decide) (by omega)
      omega
    · exact ih
/-- The rotation offset. -/
def offF (x y : Nat) : Nat → Nat → Nat → Nat → Nat
  | 0, _, _, _ => 0
  | n + 1, t, u, v => if u = x ∧ v = y then (t + 1) * (t + 2) / 2 % 64 else offF x y n (t + 1) v ((2 * u + 3 * v) % 5)
def offN (x y : Nat) : Nat := offF x y 24 0 1 0
end Go.Own
namespace Go.Proofs.YgcsalGreat
open Go.RowKit Go.Own
theorem size310 : (Salg.prog.info? 310).map (·.size) = some 8 := by kernel_rfl
theorem zero310 : ((Salg.prog.info? 310).bind (·.zero)) = some (.agg (BA 8 fun _ => false)) := by kernel_rfl
theorem size4 : (Salg.prog.info? 4).map (·.size) = some 1 := by kernel_rfl

set_option maxHeartbeats 4000000 in
set_option maxRecDepth 100000 in
theorem bit_any (b : Bool) (w : World) : Calls Salg.prog 252 #[.bool b] w fun e w' => e = .returned (n8 (if b then 1 else 0)) ∧ w' = w := by
  cases b
  · go_enter Salg.func252, Salg.ntmps252
    go_wp2
    go_ret
    exact ⟨rfl, rfl⟩
  · go_enter Salg.func252, Salg.ntmps252
    go_wp2
    go_ret
    exact ⟨rfl, rfl⟩
theorem const_num : ∀ j : Nat, j < 7 → IntKind.u64.wrap (2 ^ min (IntKind.u64.wrap (IntKind.u64.wrap (2 ^ j) - 1)).toNat 64) = ((2 ^ (2 ^ j - 1) : Nat) : Int) := by decide +kernel
theorem const_num2 : ∀ j : Nat, j < 7 → 2 ^ (2 ^ j - 1) < 18446744073709551616 := by decide +kernel
theorem off_num : ∀ t : Nat, t < 24 → (wrap64 ((wrap64 (((t : Int) + 1) * ((t : Int) + 2))).tdiv 2)).tmod 64 % 256 = (((t + 1) * (t + 2) / 2 % 64 : Nat) : Int) := by decide +kernel

set_option maxHeartbeats 4000000 in
set_option maxRecDepth 100000 in
theorem offset_any (x y : Nat) (w : World) (hx : x < 5) (hy : y < 5) : Calls Salg.prog 251 #[n8 x, n8 y] w fun e w' => e = .returned (n8 (offN x y)) ∧ w' = w := by
  have HO : Hid (offF x y 24 0 1 0 = offN x y) := rfl
  have HK := hid off_num
  go_enter Salg.func251, Salg.ntmps251
  go_wp2_with fail
  go_loopw [5, 6, 7] (fun uv vv tv wr => ∃ t u v : Nat, t ≤ 24 ∧ u < 5 ∧ v < 5 ∧ uv = .int .i64 (u : Int) ∧ vv = .int .i64 (v : Int) ∧ tv = .int .i64 (t : Int) ∧ offF x y (24 - t) t u v = offN x y ∧ wr = w) (fun _ _ tv _ => ((24 : Int) - intOf tv).toNat)
  case atStart => exact ⟨0, 1, 0, by omega, by omega, by omega, rfl, rfl, rfl, HO.out, rfl⟩
  case round =>
    obtain ⟨t, u, v, ht, hu, hv, rfl, rfl, rfl, ho, rfl⟩ := hrel
    rcases Nat.lt_or_ge t 24 with h24 | h24
    · rw [show 24 - t = (23 - t) + 1 by omega, offF] at ho
      have HU := hid hu
      by_cases hux : u = x
      · by_cases hvy : v = y
        · rw [if_pos ⟨hux, hvy⟩] at ho
          have HH := hid ho
          clear ho HO
          subst hux hvy
          go_wp2_with fail
          go_ret
          refine ⟨?_, rfl⟩
          rw [← HH.out]
          show Ending.returned _ = Ending.returned _
          congr 1
          show Value.int .u8 _ = Value.int .u8 _
          congr 1
          exact HK.out t h24
        · rw [if_neg (fun h => hvy h.2)] at ho
          have HH := hid ho
          clear ho HO
          subst hux
          go_wp2_with fail
          go_roundw
          case rel => exact ⟨t + 1, v, (2 * u + 3 * v) % 5, by omega, hv, by omega, rfl, by go_num, by go_num, by rw [← HH.out]; congr 1; omega, trivial⟩
          case measure => simp [intOf]; omega
      · rw [if_neg (fun h => hux h.1)] at ho
        have HH := hid ho
        clear ho HO
        go_wp2_with fail
        go_roundw
        case rel => exact ⟨t + 1, v, (2 * u + 3 * v) % 5, by omega, hv, by omega, rfl, by go_num, by go_num, by rw [← HH.out]; congr 1; omega, trivial⟩
        case measure => simp [intOf]; omega
    · have : t = 24 := by omega
      subst this
      have HH : Hid (0 = offN x y) := ho
      clear ho HO
      go_wp2_with fail
      go_ret
      exact ⟨by rw [← HH.out]; rfl, rfl⟩

set_option maxHeartbeats 4000000 in
set_option maxRecDepth 100000 in
theorem turn_any (b t : Nat) (f : Nat → Bool) (w : World) (hr : w.heap[b]? = some (RB t 8 f)) : Calls Salg.prog 262 #[.pointer (some ⟨b, 0, none⟩)] w fun e w' => ∃ r, e = .returned r ∧ w'.heap[b]? = some (RB t 8 (turnB f)) ∧ Kept [b] w w' := by
  have M := (Mem.start w [b]).add hr (by simp)
  have hbx : b ∈ [b] ∨ w.heap.size ≤ b := Or.inl (by simp)
  clear hr
  go_enter Salg.func262, Salg.ntmps262
  go_wp2_with ((with_reducible apply W_loadCell); rfl; exact M.r0; exact BA_get (by decide); exact Salg.underlying4; rfl; simp only [Act.put, List.setIfInBounds_toArray, List.set_cons_zero, List.set_cons_succ])
  go_loopw [3] (fun iv wr => ∃ i : Nat, i ≤ 7 ∧ iv = .int .i64 (i : Int) ∧ Mem w [b] [(b, RB t 8 (fun j => if i < j then f (j - 1) else f j))] wr) (fun iv _ => (intOf iv).toNat)
  case atStart => exact ⟨7, by omega, rfl, M.rb0 fun i hi => by rw [if_neg (by omega)]⟩
  case round =>
    clear M
    obtain ⟨i, hi, rfl, M⟩ := hrel
    rcases Nat.eq_zero_or_pos i with h0 | h0
    · subst h0
      go_wp2_with ((with_reducible apply W_stB (L1 := []) (b := b) (o := 0) (v := f 7)); rfl; rfl; exact M; exact hbx; exact size4; decide; clear M; intro w5 M; simp only [List.cons_append, List.nil_append] at M)
      go_wp2_with fail
      refine S_region (by kernel_rfl) ?_
      refine V_quiet 0 9 (by kernel_rfl) (by decide) M.drew ?_
      clear M
      simp only [List.take_succ_cons, List.take_zero, List.drop_zero, List.drop_succ_cons, Nat.sub_zero, Nat.reduceSub]
      ((with_reducible apply V_run); rfl; (intro w M; go_simp; (try go_ints); (try simp only [↓IntWalk.iteOmega]); (try with_reducible rfl)); simp only [Act.put, List.setIfInBounds_toArray, List.set_cons_zero, List.set_cons_succ])
      ((with_reducible apply V_run); rfl; (intro w M; go_simp; (try go_ints); (try simp only [↓IntWalk.iteOmega]); (try with_reducible rfl)); simp only [Act.put, List.setIfInBounds_toArray, List.set_cons_zero, List.set_cons_succ])
      ((with_reducible apply V_run); rfl; (intro w M; go_simp; (try go_ints); (try simp only [↓IntWalk.iteOmega]); (try with_reducible rfl)); simp only [Act.put, List.setIfInBounds_toArray, List.set_cons_zero, List.set_cons_succ])
      ((with_reducible apply V_run); rfl; (intro w M; go_simp; (try go_ints); (try simp only [↓IntWalk.iteOmega]); (try with_reducible rfl)); simp only [Act.put, List.setIfInBounds_toArray, List.set_cons_zero, List.set_cons_succ])
      ((with_reducible apply V_run); rfl; (intro w M; exact run_loadB (i := 4) M.r0 (by first | rfl | (congr 3; omega) | (simp; omega)) (by decide) Salg.underlying4); simp only [Act.put, List.setIfInBounds_toArray, List.set_cons_zero, List.set_cons_succ])
      ((with_reducible apply V_run); rfl; (intro w M; go_simp; (try go_ints); (try simp only [↓IntWalk.iteOmega]); (try with_reducible rfl)); simp only [Act.put, List.setIfInBounds_toArray, List.set_cons_zero, List.set_cons_succ])
      ((with_reducible apply V_run); rfl; (intro w M; go_simp; (try go_ints); (try simp only [↓IntWalk.iteOmega]); (try with_reducible rfl)); simp only [Act.put, List.setIfInBounds_toArray, List.set_cons_zero, List.set_cons_succ])
      ((with_reducible apply V_run); rfl; (intro w M; go_simp; (try go_ints); (try simp only [↓IntWalk.iteOmega]); (try with_reducible rfl)); simp only [Act.put, List.setIfInBounds_toArray, List.set_cons_zero, List.set_cons_succ])
      ((with_reducible apply V_run); rfl; (intro w M; go_simp; (try go_ints); (try simp only [↓IntWalk.iteOmega]); (try with_reducible rfl)); simp only [Act.put, List.setIfInBounds_toArray, List.set_cons_zero, List.set_cons_succ])
      refine V_nil ?_
      intro w4 M
      refine S_seg 9 10 (by kernel_rfl) (by decide) ?_
      simp only [List.take_succ_cons, List.take_zero, List.drop_zero, List.drop_succ_cons, Nat.sub_zero, Nat.reduceSub]
      go_wp2_with ((with_reducible apply W_stB (L1 := []) (b := b) (o := 4) (v := (_ != f 7))); exact (by first | rfl | (congr 3; omega) | (simp; omega)); rfl; exact M; exact hbx; exact size4; decide; clear M; intro w5 M; simp only [List.cons_append, List.nil_append] at M)
      refine S_done ?_
      go_wp2_with fail
      refine S_region (by kernel_rfl) ?_
      refine V_quiet 0 9 (by kernel_rfl) (by decide) M.drew ?_
      clear M
      simp only [List.take_succ_cons, List.take_zero, List.drop_zero, List.drop_succ_cons, Nat.sub_zero, Nat.reduceSub]
      ((with_reducible apply V_run); rfl; (intro w M; go_simp; (try go_ints); (try simp only [↓IntWalk.iteOmega]); (try with_reducible rfl)); simp only [Act.put, List.setIfInBounds_toArray, List.set_cons_zero, List.set_cons_succ])
      ((with_reducible apply V_run); rfl; (intro w M; go_simp; (try go_ints); (try simp only [↓IntWalk.iteOmega]); (try with_reducible rfl)); simp only [Act.put, List.setIfInBounds_toArray, List.set_cons_zero, List.set_cons_succ])
      ((with_reducible apply V_run); rfl; (intro w M; go_simp; (try go_ints); (try simp only [↓IntWalk.iteOmega]); (try with_reducible rfl)); simp only [Act.put, List.setIfInBounds_toArray, List.set_cons_zero, List.set_cons_succ])
      ((with_reducible apply V_run); rfl; (intro w M; go_simp; (try go_ints); (try simp only [↓IntWalk.iteOmega]); (try with_reducible rfl)); simp only [Act.put, List.setIfInBounds_toArray, List.set_cons_zero, List.set_cons_succ])
      ((with_reducible apply V_run); rfl; (intro w M; exact run_loadB (i := 5) M.r0 (by first | rfl | (congr 3; omega) | (simp; omega)) (by decide) Salg.underlying4); simp only [Act.put, List.setIfInBounds_toArray, List.set_cons_zero, List.set_cons_succ])
      ((with_reducible apply V_run); rfl; (intro w M; go_simp; (try go_ints); (try simp only [↓IntWalk.iteOmega]); (try with_reducible rfl)); simp only [Act.put, List.setIfInBounds_toArray, List.set_cons_zero, List.set_cons_succ])
      ((with_reducible apply V_run); rfl; (intro w M; go_simp; (try go_ints); (try simp only [↓IntWalk.iteOmega]); (try with_reducible rfl)); simp only [Act.put, List.setIfInBounds_toArray, List.set_cons_zero, List.set_cons_succ])
      ((with_reducible apply V_run); rfl; (intro w M; go_simp; (try go_ints); (try simp only [↓IntWalk.iteOmega]); (try with_reducible rfl)); simp only [Act.put, List.setIfInBounds_toArray, List.set_cons_zero, List.set_cons_succ])
      ((with_reducible apply V_run); rfl; (intro w M; go_simp; (try go_ints); (try simp only [↓IntWalk.iteOmega]); (try with_reducible rfl)); simp only [Act.put, List.setIfInBounds_toArray, List.set_cons_zero, List.set_cons_succ])
      refine V_nil ?_
      intro w4 M
      refine S_seg 9 10 (by kernel_rfl) (by decide) ?_
      simp only [List.take_succ_cons, List.take_zero, List.drop_zero, List.drop_succ_cons, Nat.sub_zero, Nat.reduceSub]
      go_wp2_with ((with_reducible apply W_stB (L1 := []) (b := b) (o := 5) (v := (_ != f 7))); exact (by first | rfl | (congr 3; omega) | (simp; omega)); rfl; exact M; exact hbx; exact size4; decide; clear M; intro w5 M; simp only [List.cons_append, List.nil_append] at M)
      refine S_done ?_
      go_wp2_with fail
      refine S_region (by kernel_rfl) ?_
      refine V_quiet 0 9 (by kernel_rfl) (by decide) M.drew ?_
      clear M
      simp only [List.take_succ_cons, List.take_zero, List.drop_zero, List.drop_succ_cons, Nat.sub_zero, Nat.reduceSub]
      ((with_reducible apply V_run); rfl; (intro w M; go_simp; (try go_ints); (try simp only [↓IntWalk.iteOmega]); (try with_reducible rfl)); simp only [Act.put, List.setIfInBounds_toArray, List.set_cons_zero, List.set_cons_succ])
      ((with_reducible apply V_run); rfl; (intro w M; go_simp; (try go_ints); (try simp only [↓IntWalk.iteOmega]); (try with_reducible rfl)); simp only [Act.put, List.setIfInBounds_toArray, List.set_cons_zero, List.set_cons_succ])
      ((with_reducible apply V_run); rfl; (intro w M; go_simp; (try go_ints); (try simp only [↓IntWalk.iteOmega]); (try with_reducible rfl)); simp only [Act.put, List.setIfInBounds_toArray, List.set_cons_zero, List.set_cons_succ])
      ((with_reducible apply V_run); rfl; (intro w M; go_simp; (try go_ints); (try simp only [↓IntWalk.iteOmega]); (try with_reducible rfl)); simp only [Act.put, List.setIfInBounds_toArray, List.set_cons_zero, List.set_cons_succ])
      ((with_reducible apply V_run); rfl; (intro w M; exact run_loadB (i := 6) M.r0 (by first | rfl | (congr 3; omega) | (simp; omega)) (by decide) Salg.underlying4); simp only [Act.put, List.setIfInBounds_toArray, List.set_cons_zero, List.set_cons_succ])
      ((with_reducible apply V_run); rfl; (intro w M; go_simp; (try go_ints); (try simp only [↓IntWalk.iteOmega]); (try with_reducible rfl)); simp only [Act.put, List.setIfInBounds_toArray, List.set_cons_zero, List.set_cons_succ])
      ((with_reducible apply V_run); rfl; (intro w M; go_simp; (try go_ints); (try simp only [↓IntWalk.iteOmega]); (try with_reducible rfl)); simp only [Act.put, List.setIfInBounds_toArray, List.set_cons_zero, List.set_cons_succ])
      ((with_reducible apply V_run); rfl; (intro w M; go_simp; (try go_ints); (try simp only [↓IntWalk.iteOmega]); (try with_reducible rfl)); simp only [Act.put, List.setIfInBounds_toArray, List.set_cons_zero, List.set_cons_succ])
      ((with_reducible apply V_run); rfl; (intro w M; go_simp; (try go_ints); (try simp only [↓IntWalk.iteOmega]); (try with_reducible rfl)); simp only [Act.put, List.setIfInBounds_toArray, List.set_cons_zero, List.set_cons_succ])
      refine V_nil ?_
      intro w4 M
      refine S_seg 9 10 (by kernel_rfl) (by decide) ?_
      simp only [List.take_succ_cons, List.take_zero, List.drop_zero, List.drop_succ_cons, Nat.sub_zero, Nat.reduceSub]
      go_wp2_with ((with_reducible apply W_stB (L1 := []) (b := b) (o := 6) (v := (_ != f 7))); exact (by first | rfl | (congr 3; omega) | (simp; omega)); rfl; exact M; exact hbx; exact size4; decide; clear M; intro w5 M; simp only [List.cons_append, List.nil_append] at M)
      refine S_done ?_
      go_wp2_with fail
      go_end0
      refine ⟨_, rfl, ?_, M.kept⟩
      refine M.r0.trans (congrArg some (RB_congr fun j hj => ?_))
      have hj2 : j = 0 ∨ j = 1 ∨ j = 2 ∨ j = 3 ∨ j = 4 ∨ j = 5 ∨ j = 6 ∨ j = 7 := by omega
      rcases hj2 with rfl | rfl | rfl | rfl | rfl | rfl | rfl | rfl <;> simp [upd, turnB]
    · go_wp2_with fail
      refine S_region (by kernel_rfl) ?_
      refine V_quiet 0 10 (by kernel_rfl) (by decide) M.drew ?_
      clear M
      simp only [List.take_succ_cons, List.take_zero, List.drop_zero, List.drop_succ_cons, Nat.sub_zero, Nat.reduceSub]
      ((with_reducible apply V_run); rfl; (intro w M; go_simp; (try go_ints); (try simp only [↓IntWalk.iteOmega]); (try with_reducible rfl)); simp only [Act.put, List.setIfInBounds_toArray, List.set_cons_zero, List.set_cons_succ])
      ((with_reducible apply V_run); rfl; (intro w M; go_simp; (try go_ints); (try simp only [↓IntWalk.iteOmega]); (try with_reducible rfl)); simp only [Act.put, List.setIfInBounds_toArray, List.set_cons_zero, List.set_cons_succ])
      ((with_reducible apply V_run); rfl; (intro w M; go_simp; (try go_ints); (try simp only [↓IntWalk.iteOmega]); (try with_reducible rfl)); simp only [Act.put, List.setIfInBounds_toArray, List.set_cons_zero, List.set_cons_succ])
      ((with_reducible apply V_run); rfl; (intro w M; go_simp; (try go_ints); (try simp only [↓IntWalk.iteOmega]); (try with_reducible rfl)); simp only [Act.put, List.setIfInBounds_toArray, List.set_cons_zero, List.set_cons_succ])
      ((with_reducible apply V_run); rfl; (intro w M; go_simp; (try go_ints); (try simp only [↓IntWalk.iteOmega]); (try with_reducible rfl)); simp only [Act.put, List.setIfInBounds_toArray, List.set_cons_zero, List.set_cons_succ])
      ((with_reducible apply V_run); rfl; (intro w M; go_simp; (try go_ints); (try simp only [↓IntWalk.iteOmega]); (try with_reducible rfl)); simp only [Act.put, List.setIfInBounds_toArray, List.set_cons_zero, List.set_cons_succ])
      ((with_reducible apply V_run); rfl; (intro w M; go_simp; (try go_ints); (try simp only [↓IntWalk.iteOmega]); (try with_reducible rfl)); simp only [Act.put, List.setIfInBounds_toArray, List.set_cons_zero, List.set_cons_succ])
      ((with_reducible apply V_run); rfl; (intro w M; exact run_loadB (i := i - 1) M.r0 (by first | rfl | (congr 3; omega) | (simp; omega)) (by omega) Salg.underlying4); simp only [Act.put, List.setIfInBounds_toArray, List.set_cons_zero, List.set_cons_succ])
      ((with_reducible apply V_run); rfl; (intro w M; go_simp; (try go_ints); (try simp only [↓IntWalk.iteOmega]); (try with_reducible rfl)); simp only [Act.put, List.setIfInBounds_toArray, List.set_cons_zero, List.set_cons_succ])
      ((with_reducible apply V_run); rfl; (intro w M; go_simp; (try go_ints); (try simp only [↓IntWalk.iteOmega]); (try with_reducible rfl)); simp only [Act.put, List.setIfInBounds_toArray, List.set_cons_zero, List.set_cons_succ])
      refine V_nil ?_
      intro w4 M
      refine S_seg 10 11 (by kernel_rfl) (by decide) ?_
      simp only [List.take_succ_cons, List.take_zero, List.drop_zero, List.drop_succ_cons, Nat.sub_zero, Nat.reduceSub]
      go_wp2_with ((with_reducible apply W_stB (L1 := []) (b := b) (o := i) (v := _)); exact (by first | rfl | (congr 3; omega) | (simp; omega)); rfl; exact M; exact hbx; exact size4; omega; clear M; intro w5 M; simp only [List.cons_append, List.nil_append] at M)
      refine S_done ?_
      go_wp2_with fail
      go_roundw
      case rel =>
        refine ⟨i - 1, by omega, by go_num, M.rb0 fun j hj => ?_⟩
        simp only [upd]
        by_cases h1 : j = i
        · subst h1
          rw [if_pos rfl, if_neg (by omega), if_pos (by omega)]
        · rw [if_neg h1]
          by_cases h2 : i < j
          · rw [if_pos h2, if_pos (by omega)]
          · rw [if_neg h2, if_neg (by omega)]
      case measure => simp [intOf]; omega

set_option maxHeartbeats 4000000 in
set_option maxRecDepth 100000 in
theorem const_any (i : Nat) (w : World) (hi : i < 24) : Calls Salg.prog 253 #[n8 i] w fun e w' => e = .returned (n64 (constN i 7)) ∧ Kept [] w w' := by
  have M := Mem.start w []
  have HTU := hid (fun b t f w' (h : w'.heap[b]? = some (RB t 8 f)) => turn_any b t f w' h)
  have HLT := hid (fun j => constN_lt i j)
  have HN := hid const_num
  have HN2 := hid const_num2
  go_enter Salg.func253, Salg.ntmps253
  go_wp2_with (first
    | ((with_reducible apply W_buildV (d := 9) (v := .agg (BA 8 (regB 0)))); kernel_rfl; simp only [Act.put, List.setIfInBounds_toArray, List.set_cons_zero, List.set_cons_succ])
    | ((with_reducible apply L_allocA (d := 3) M); exact zero310; clear M; intro b3 w1 hb3 M; simp only [Act.put, List.setIfInBounds_toArray, List.set_cons_zero, List.set_cons_succ])
    | ((with_reducible apply W_storeK (b := b3) (vs := BA 8 (regB 0))); rfl; rfl; exact M.r0; exact size310; rfl; exact BA_one _ _; intro w2 K hr; replace M := Mem.callPut (L1 := []) (o' := RB 310 8 (regB 0)) M (Or.inr hb3) K hr; clear K hr; simp only [List.nil_append] at M))
  go_loopw [4] (fun iv wr => ∃ t : Nat, t ≤ 7 * i ∧ iv = .int .i64 (t : Int) ∧ Mem w [] [(b3, RB 310 8 (regB t))] wr) (fun iv _ => ((7 * i : Nat) - intOf iv).toNat)
  case atStart => exact ⟨0, by omega, rfl, M⟩
  case round =>
    clear M
    obtain ⟨t, ht, rfl, M⟩ := hrel
    rcases Nat.lt_or_ge t (7 * i) with hlt | hge
    · go_wp2_with fail
      refine (HTU.out b3 310 (regB t) _ M.r0).mono ?_
      rintro e w3 ⟨r, rfl, hr3, K3⟩
      replace M := Mem.callPut (L1 := []) M (Or.inr hb3) K3 hr3
      clear hr3 K3
      simp only [List.nil_append] at M
      go_wp2_with fail
      go_roundw
      case rel => exact ⟨t + 1, by omega, by go_num, M⟩
      case measure => simp [intOf]; omega
    · have HT : Hid (t = 7 * i) := by show _ = _; omega
      go_wp2_with fail
      go_loopw [5, 6] (fun cv jv wr => ∃ j : Nat, j ≤ 7 ∧ cv = n64 (constN i j) ∧ jv = .int .i64 (j : Int) ∧ Mem w [] [(b3, RB 310 8 (regB (t + j)))] wr) (fun _ jv _ => (7 - intOf jv).toNat)
      case atStart => exact ⟨0, by omega, rfl, rfl, M⟩
      case round =>
        clear M
        obtain ⟨j, hj, rfl, rfl, M⟩ := hrel
        rcases Nat.lt_or_ge j 7 with hlt | hge
        · generalize hg : regB (t + j) 0 = g
          have HL := hid (HLT.out j (by omega))
          cases g
          · have HC : Hid (constN i (j + 1) = constN i j) := by show _ = _; rw [constN, ← HT.out, hg]; rfl
            have HG : Hid ((BA 8 (regB (t + j)))[0]? = some (.bool false)) := by show _ = _; rw [BA_get (by decide), hg]
            clear hg
            go_wp2_with ((with_reducible apply W_loadCell); rfl; exact M.r0; exact HG.out; exact Salg.underlying4; rfl; simp only [Act.put, List.setIfInBounds_toArray, List.set_cons_zero, List.set_cons_succ])
            refine (HTU.out b3 310 (regB (t + j)) _ M.r0).mono ?_
            rintro e w3 ⟨r, rfl, hr3, K3⟩
            replace M := Mem.callPut (L1 := []) M (Or.inr hb3) K3 hr3
            clear hr3 K3
            simp only [List.nil_append] at M
            go_wp2_with fail
            go_roundw
            case rel => exact ⟨j + 1, by omega, by rw [HC.out], by go_num, M⟩
            case measure => simp [intOf]; omega
          · have HC : Hid (constN i (j + 1) = constN i j ||| 2 ^ (2 ^ j - 1)) := by show _ = _; rw [constN, ← HT.out, hg]; rfl
            have HG : Hid ((BA 8 (regB (t + j)))[0]? = some (.bool true)) := by show _ = _; rw [BA_get (by decide), hg]
            clear hg
            go_wp2_with ((with_reducible apply W_loadCell); rfl; exact M.r0; exact HG.out; exact Salg.underlying4; rfl; simp only [Act.put, List.setIfInBounds_toArray, List.set_cons_zero, List.set_cons_succ])
            refine (HTU.out b3 310 (regB (t + j)) _ M.r0).mono ?_
            rintro e w3 ⟨r, rfl, hr3, K3⟩
            replace M := Mem.callPut (L1 := []) M (Or.inr hb3) K3 hr3
            clear hr3 K3
            simp only [List.nil_append] at M
            go_wp2_with fail
            go_roundw
            case rel => exact ⟨j + 1, by omega, by rw [HC.out]; show Value.int .u64 _ = Value.int .u64 _; rw [HN.out j hlt, bits_or_u64_nat _ _ HL.out (HN2.out j hlt)], by go_num, M⟩
            case measure => simp [intOf]; omega
        · have e : j = 7 := by omega
          subst e
          go_wp2_with fail
          go_ret
          exact ⟨rfl, M.kept⟩
end Go.Proofs.YgcsalGreat

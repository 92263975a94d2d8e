/-
  The walks of math/bits and of num's wrappers: Add64, Sub64, Mul64, Len64, LeadingZeros64.
-/
import Derived.Test.YgcsalGreatNum
import Derived.Laws.Externs
import Derived.Lib.Mul64
import Derived.Laws.Bits64b
set_option linter.unusedSimpArgs false
namespace Go.Own
theorem maskN (a : Nat) (ha : a < 18446744073709551616) : bits .and .u64 (a : Int) 4294967295 = ((a % 4294967296 : Nat) : Int) := by
  have h := bits_and_u64_nat a 4294967295 ha (by omega)
  rw [show a &&& 4294967295 = a % 4294967296 from Nat.and_two_pow_sub_one_eq_mod a 32] at h
  exact h
theorem divN (a : Nat) : (a : Int) / 4294967296 = ((a / 4294967296 : Nat) : Int) := by omega
theorem mulN (a b : Nat) : (a : Int) * (b : Int) = ((a * b : Nat) : Int) := (Int.natCast_mul a b).symm
theorem addN (a b : Nat) : (a : Int) + (b : Int) = ((a + b : Nat) : Int) := (Int.natCast_add a b).symm
theorem wrapN (a : Nat) (ha : a < 18446744073709551616) : IntKind.u64.wrap (a : Int) = (a : Int) := by rw [IntKind.wrap_u64]; omega
theorem wrapM (a : Nat) : IntKind.u64.wrap (a : Int) = ((a % 18446744073709551616 : Nat) : Int) := by rw [IntKind.wrap_u64]; omega
/-- The number of bits. -/
def blen (x : Nat) : Nat := if x = 0 then 0 else Nat.log2 x + 1
theorem blen_lt (x : Nat) : x < 2 ^ blen x := by
  unfold blen; split
  · simp [*]
  · exact Nat.lt_log2_self
theorem blen_ge {x : Nat} (h : x ≠ 0) : 2 ^ (blen x - 1) ≤ x := by
  unfold blen; rw [if_neg h]
  exact Nat.log2_self_le h
theorem blen_pos {x : Nat} (h : x ≠ 0) : 0 < blen x := by unfold blen; rw [if_neg h]; omega
theorem blen_unique {x k : Nat} (h1 : x < 2 ^ k) (h2 : k = 0 ∨ 2 ^ (k - 1) ≤ x) : blen x = k := by
  rcases Nat.eq_zero_or_pos k with rfl | hk
  · have : x = 0 := by simp at h1; exact h1
    simp [blen, this]
  · have h3 : 2 ^ (k - 1) ≤ x := by rcases h2 with h | h; omega; exact h
    have hx : x ≠ 0 := by have := Nat.pow_pos (n := k - 1) (show 0 < 2 by decide); omega
    have a1 : blen x ≤ k := by
      rcases Nat.lt_or_ge k (blen x) with h | h
      · have := Nat.pow_le_pow_right (show 0 < 2 by decide) (show k ≤ blen x - 1 by omega)
        have := blen_ge hx; omega
      · exact h
    have a2 : k ≤ blen x := by
      rcases Nat.lt_or_ge (blen x) k with h | h
      · have := Nat.pow_le_pow_right (show 0 < 2 by decide) (show blen x ≤ k - 1 by omega)
        have := blen_lt x; omega
      · exact h
    omega
theorem blen_le {x k : Nat} (h : x < 2 ^ k) : blen x ≤ k := by
  rcases Nat.lt_or_ge k (blen x) with h' | h'
  · have hx : x ≠ 0 := by intro h0; subst h0; simp [blen] at h'
    have := Nat.pow_le_pow_right (show 0 < 2 by decide) (show k ≤ blen x - 1 by omega)
    have := blen_ge hx; omega
  · exact h'
theorem blen_shift {x k : Nat} (h : 2 ^ k ≤ x) : blen x = k + blen (x / 2 ^ k) := by
  have hp : 0 < 2 ^ k := Nat.pow_pos (by decide)
  have hq : x / 2 ^ k ≠ 0 := by have := Nat.div_pos h hp; omega
  apply blen_unique
  · rw [Nat.pow_add]
    exact (Nat.div_lt_iff_lt_mul hp).1 (blen_lt (x / 2 ^ k)) |> fun h => by rw [Nat.mul_comm]; exact h
  · right
    have h1 := blen_ge hq
    have h2 := blen_pos hq
    rw [show k + blen (x / 2 ^ k) - 1 = k + (blen (x / 2 ^ k) - 1) from by omega, Nat.pow_add]
    exact Nat.le_trans (Nat.mul_le_mul_left _ h1) (Nat.mul_div_le x (2 ^ k))
section
variable {P : Program} {ops : Array Oper} {Q : Exit → Act → World → Prop} {rest : List Oper} {a : Act} {w : World}
theorem run_indexStr {w : World} {dst : Option Tmp} {x y : Operand} {t ty' : TypeId} {n : Nat} {i : Int} {ki : IntKind} {pos : String} {after : Array Edge} {g : Option (Nat × Bool)} {s : ByteArray} {b : UInt8}
    (hx : a.eval x = .string s) (hy : a.eval y = .int ki i) (hin : i = (n : Nat)) (hu : P.underlying t = some .string) (hv : s[n]? = some b) :
    (execOp a.eval { dst := dst, op := .index t x y, type := ty', pos := pos, after := after, guard := g }).run P w = .ok (.value (.int .u8 b.toNat)) w := by
  subst hin
  simp [execOp, hx, hy, Instr.index, asIntOf, Sem.run_bind, run_underlying hu, hv]
theorem W_indexStr {dst : Tmp} {x y : Operand} {t ty' : TypeId} {n m : Nat} {i : Int} {ki : IntKind} {pos : String} {after : Array Edge} {s : ByteArray}
    (hx : a.eval x = .string s) (hy : a.eval y = .int ki i) (hin : i = (n : Nat)) (hu : P.underlying t = some .string) (hv : ∃ b : UInt8, s[n]? = some b ∧ b.toNat = m) (k : wpList P ops Q rest (a.put (some dst) (.int .u8 m)) w) :
    wpList P ops Q ({ dst := some dst, op := .index t x y, type := ty', pos := pos, after := after, guard := none } :: rest) a w := by
  obtain ⟨b, h1, rfl⟩ := hv
  exact L_run rfl (run_indexStr hx hy hin hu h1) k
end
def tab8 : ByteArray := { data := (([0, 1, 2, 2, 3, 3, 3, 3, 4, 4, 4, 4, 4, 4, 4, 4, 5, 5, 5, 5, 5, 5, 5, 5, 5, 5, 5, 5, 5, 5, 5, 5, 6, 6, 6, 6, 6, 6, 6, 6, 6, 6, 6, 6, 6, 6, 6, 6, 6, 6, 6, 6, 6, 6, 6, 6, 6, 6, 6, 6, 6, 6, 6, 6].append [7, 7, 7, 7, 7, 7, 7, 7, 7, 7, 7, 7, 7, 7, 7, 7, 7, 7, 7, 7, 7, 7, 7, 7, 7, 7, 7, 7, 7, 7, 7, 7, 7, 7, 7, 7, 7, 7, 7, 7, 7, 7, 7, 7, 7, 7, 7, 7, 7, 7, 7, 7, 7, 7, 7, 7, 7, 7, 7, 7, 7, 7, 7, 7]).append ([8, 8, 8, 8, 8, 8, 8, 8, 8, 8, 8, 8, 8, 8, 8, 8, 8, 8, 8, 8, 8, 8, 8, 8, 8, 8, 8, 8, 8, 8, 8, 8, 8, 8, 8, 8, 8, 8, 8, 8, 8, 8, 8, 8, 8, 8, 8, 8, 8, 8, 8, 8, 8, 8, 8, 8, 8, 8, 8, 8, 8, 8, 8, 8].append [8, 8, 8, 8, 8, 8, 8, 8, 8, 8, 8, 8, 8, 8, 8, 8, 8, 8, 8, 8, 8, 8, 8, 8, 8, 8, 8, 8, 8, 8, 8, 8, 8, 8, 8, 8, 8, 8, 8, 8, 8, 8, 8, 8, 8, 8, 8, 8, 8, 8, 8, 8, 8, 8, 8, 8, 8, 8, 8, 8, 8, 8, 8, 8])).toArray }
theorem tab8_get : ∀ n : Fin 256, tab8[n.val]? = some (blen n.val).toUInt8 ∧ ((blen n.val).toUInt8).toNat = blen n.val := by decide +kernel
theorem tab8_ex {n : Nat} (h : n < 256) : ∃ b : UInt8, tab8[n]? = some b ∧ b.toNat = blen n := ⟨_, (tab8_get ⟨n, h⟩).1, (tab8_get ⟨n, h⟩).2⟩
end Go.Own
namespace Go.Proofs.YgcsalGreat
open Go.RowKit Go.Own

def subEntry : Array Value → Sem Value := fun args => do
  let (x, y, b) ← Extern.MathBitsCarry.three "Sub64" args
  pure (Extern.MathBitsCarry.pair ((x + Extern.MathBitsCarry.m64 - y - b) % Extern.MathBitsCarry.m64) (if x < y + b then 1 else 0))
theorem run_sub (x y b : Nat) (hb : b ≤ 1) (w : World) :
    (subEntry #[.int .u64 x, .int .u64 y, .int .u64 b]).run Salg.prog w =
      .ok (.tuple #[.int .u64 (((x + 18446744073709551616 - y - b) % 18446744073709551616 : Nat) : Int), .int .u64 ((if x < y + b then 1 else 0 : Nat) : Int)]) w := by
  have : b = 0 ∨ b = 1 := by omega
  rcases this with rfl | rfl <;> rfl
theorem bitsAdd_run (x y c : Nat) (hc : c ≤ 1) (w : World) : (callFunc 200 #[.int .u64 x, .int .u64 y, .int .u64 c]).run Salg.prog w =
    .ok (.value (.tuple #[.int .u64 (((x + y + c) % 18446744073709551616 : Nat) : Int), .int .u64 (((x + y + c) / 18446744073709551616 : Nat) : Int)])) w := by
  rw [run_callFunc_extern Salg.func200 (by kernel_rfl) (by kernel_rfl) (by kernel_rfl) (e := add64Entry) (by kernel_rfl), run_add64 x y c (by omega) (by omega) (by omega) (by omega)]
  simp only [Result.andThen]
  congr 5 <;> omega
theorem bitsSub_run (x y b : Nat) (hb : b ≤ 1) (w : World) : (callFunc 207 #[.int .u64 x, .int .u64 y, .int .u64 b]).run Salg.prog w =
    .ok (.value (.tuple #[.int .u64 (((x + 18446744073709551616 - y - b) % 18446744073709551616 : Nat) : Int), .int .u64 ((if x < y + b then 1 else 0 : Nat) : Int)])) w := by
  rw [run_callFunc_extern Salg.func207 (by kernel_rfl) (by kernel_rfl) (by kernel_rfl) (e := subEntry) (by kernel_rfl), run_sub x y b hb]
  rfl

set_option maxHeartbeats 1000000 in
set_option maxRecDepth 100000 in
theorem add64_any (x y c : Nat) (hc : c ≤ 1) (w : World) :
    Calls Salg.prog 130 #[.int .u64 x, .int .u64 y, .int .u64 c] w fun e w' => e = .returned (.tuple #[n64 ((x + y + c) % 18446744073709551616), n64 ((x + y + c) / 18446744073709551616)]) ∧ w' = w := by
  have h := hid (bitsAdd_run x y c hc)
  generalize (x + y + c) % 18446744073709551616 = p at *
  generalize (x + y + c) / 18446744073709551616 = q at *
  go_enter Salg.func130, Salg.ntmps130
  go_wp2_with (simp only [h.out])
  go_ret2
  exact ⟨rfl, rfl⟩

set_option maxHeartbeats 1000000 in
set_option maxRecDepth 100000 in
theorem sub64_any (x y b : Nat) (hb : b ≤ 1) (w : World) :
    Calls Salg.prog 156 #[.int .u64 x, .int .u64 y, .int .u64 b] w fun e w' => e = .returned (.tuple #[n64 ((x + 18446744073709551616 - y - b) % 18446744073709551616), n64 (if x < y + b then 1 else 0)]) ∧ w' = w := by
  have h := hid (bitsSub_run x y b hb)
  generalize (x + 18446744073709551616 - y - b) % 18446744073709551616 = p at *
  generalize (if x < y + b then 1 else 0) = q at *
  go_enter Salg.func156, Salg.ntmps156
  go_wp2_with (simp only [h.out])
  go_ret2
  exact ⟨rfl, rfl⟩

set_option maxHeartbeats 1000000 in
set_option maxRecDepth 100000 in
theorem bitsMul_any (x y : Nat) (hx : x < 18446744073709551616) (hy : y < 18446744073709551616) (w : World) :
    Calls Salg.prog 199 #[.int .u64 x, .int .u64 y] w fun e w' => e = .returned (.tuple #[n64 (x * y / 18446744073709551616), n64 (x * y % 18446744073709551616)]) ∧ w' = w := by
  obtain ⟨bd, bt, bw, hhi⟩ := Lib.mul64_hi x y hx hy
  have ba := Lib.half_mul_le (a := x / 4294967296) (b := y / 4294967296) (by omega) (by omega)
  have bb := Lib.half_mul_le (a := x / 4294967296) (b := y % 4294967296) (by omega) (by omega)
  have bc := Lib.half_mul_le (a := x % 4294967296) (b := y / 4294967296) (by omega) (by omega)
  have ba' : x / 4294967296 * (y / 4294967296) < 18446744073709551616 := by omega
  have bb' : x / 4294967296 * (y % 4294967296) < 18446744073709551616 := by omega
  have bc' : x % 4294967296 * (y / 4294967296) < 18446744073709551616 := by omega
  have bh1 : x / 4294967296 * (y / 4294967296) + (x / 4294967296 * (y % 4294967296) + x % 4294967296 * (y % 4294967296) / 4294967296) / 4294967296 < 18446744073709551616 := by omega
  have bh : x / 4294967296 * (y / 4294967296) + (x / 4294967296 * (y % 4294967296) + x % 4294967296 * (y % 4294967296) / 4294967296) / 4294967296 + ((x / 4294967296 * (y % 4294967296) + x % 4294967296 * (y % 4294967296) / 4294967296) % 4294967296 + x % 4294967296 * (y / 4294967296)) / 4294967296 < 18446744073709551616 := by omega
  go_enter Salg.func199, Salg.ntmps199
  go_wp2
  simp only [maskN x hx, maskN y hy, divN, mulN, addN, wrapN _ bd, wrapN _ bb', wrapN _ bt, maskN _ bt, wrapN _ bc', wrapN _ bw, wrapN _ ba', wrapN _ bh1, wrapN _ bh, wrapM (x * y)]
  rw [hhi]
  go_ret2
  exact ⟨rfl, rfl⟩

set_option maxHeartbeats 1000000 in
set_option maxRecDepth 100000 in
theorem mul64_any (x y : Nat) (hx : x < 18446744073709551616) (hy : y < 18446744073709551616) (w : World) :
    Calls Salg.prog 129 #[.int .u64 x, .int .u64 y] w fun e w' => e = .returned (.tuple #[n64 (x * y / 18446744073709551616), n64 (x * y % 18446744073709551616)]) ∧ w' = w := by
  have h := hid (bitsMul_any x y hx hy)
  generalize x * y / 18446744073709551616 = p at *
  generalize x * y % 18446744073709551616 = q at *
  go_enter Salg.func129, Salg.ntmps129
  go_wp2_with fail
  refine (h.out _).mono ?_
  rintro e w1 ⟨rfl, rfl⟩
  go_wp2_with fail
  go_ret2
  exact ⟨rfl, rfl⟩

theorem len_end {a : Int} {L z n : Nat} (hz : z = n + L) (hL : L ≤ 8) (hn : n ≤ 56) (ha : a = (n : Nat)) : Ending.returned (.int .i64 (wrap64 (a + wrap64 (L : Int)))) = Ending.returned (.int .i64 (z : Int)) := by
  have : wrap64 (a + wrap64 (L : Int)) = (z : Int) := by unfold wrap64; omega
  rw [this]
theorem len_end0 {L z : Nat} (hz : z = 0 + L) (hL : L ≤ 8) : Ending.returned (.int .i64 (wrap64 (wrap64 (L : Int)))) = Ending.returned (.int .i64 (z : Int)) := by
  have : wrap64 (wrap64 (L : Int)) = (z : Int) := by unfold wrap64; omega
  rw [this]

set_option maxHeartbeats 2000000 in
set_option maxRecDepth 100000 in
theorem len64_any (x : Nat) (hx : x < 18446744073709551616) (w : World) :
    Calls Salg.prog 203 #[.int .u64 x] w fun e w' => e = .returned (.int .i64 (blen x)) ∧ w' = w := by
  by_cases h32 : 4294967296 ≤ x
  · have d32 : decide ((4294967296 : Int) ≤ (x : Int)) = true := by simp; omega
    by_cases h16 : 65536 ≤ x / 4294967296
    · have d16 : decide ((65536 : Int) ≤ (x : Int) / 4294967296) = true := by simp; omega
      by_cases h8 : 256 ≤ x / 4294967296 / 65536
      · have d8 : decide ((256 : Int) ≤ (x : Int) / 4294967296 / 65536) = true := by simp; omega
        have HE : Hid (blen x = 56 + blen (x / 4294967296 / 65536 / 256)) := by show _ = _; have e32 := blen_shift (k := 32) (x := x) h32; rw [show (2 : Nat) ^ 32 = 4294967296 from rfl] at e32; have e16 := blen_shift (k := 16) (x := x / 4294967296) h16; rw [show (2 : Nat) ^ 16 = 65536 from rfl] at e16; have e8 := blen_shift (k := 8) (x := x / 4294967296 / 65536) h8; rw [show (2 : Nat) ^ 8 = 256 from rfl] at e8; omega
        have hle := hid (blen_le (k := 8) (show x / 4294967296 / 65536 / 256 < 2 ^ 8 by omega))
        have hlt := hid (show x / 4294967296 / 65536 / 256 < 256 by omega)
        have HX := hid hx
        have hc := hid (show (x : Int) / 4294967296 / 65536 / 256 % 256 = ((x / 4294967296 / 65536 / 256 : Nat) : Int) by omega)
        clear hx h32 h16 h8
        go_enter Salg.func203, Salg.ntmps203
        generalize hT : ({ data := (([0, 1, 2, 2, 3, 3, 3, 3, 4, 4, 4, 4, 4, 4, 4, 4, 5, 5, 5, 5, 5, 5, 5, 5, 5, 5, 5, 5, 5, 5, 5, 5, 6, 6, 6, 6, 6, 6, 6, 6, 6, 6, 6, 6, 6, 6, 6, 6, 6, 6, 6, 6, 6, 6, 6, 6, 6, 6, 6, 6, 6, 6, 6, 6].append [7, 7, 7, 7, 7, 7, 7, 7, 7, 7, 7, 7, 7, 7, 7, 7, 7, 7, 7, 7, 7, 7, 7, 7, 7, 7, 7, 7, 7, 7, 7, 7, 7, 7, 7, 7, 7, 7, 7, 7, 7, 7, 7, 7, 7, 7, 7, 7, 7, 7, 7, 7, 7, 7, 7, 7, 7, 7, 7, 7, 7, 7, 7, 7]).append ([8, 8, 8, 8, 8, 8, 8, 8, 8, 8, 8, 8, 8, 8, 8, 8, 8, 8, 8, 8, 8, 8, 8, 8, 8, 8, 8, 8, 8, 8, 8, 8, 8, 8, 8, 8, 8, 8, 8, 8, 8, 8, 8, 8, 8, 8, 8, 8, 8, 8, 8, 8, 8, 8, 8, 8, 8, 8, 8, 8, 8, 8, 8, 8].append [8, 8, 8, 8, 8, 8, 8, 8, 8, 8, 8, 8, 8, 8, 8, 8, 8, 8, 8, 8, 8, 8, 8, 8, 8, 8, 8, 8, 8, 8, 8, 8, 8, 8, 8, 8, 8, 8, 8, 8, 8, 8, 8, 8, 8, 8, 8, 8, 8, 8, 8, 8, 8, 8, 8, 8, 8, 8, 8, 8, 8, 8, 8, 8])).toArray } : ByteArray) = T
        have HT : Hid (∀ n, n < 256 → ∃ b : UInt8, T[n]? = some b ∧ b.toNat = blen n) := fun n hn => by rw [← hT]; exact tab8_ex hn
        clear hT
        go_wp2_with ((with_reducible apply W_indexStr (n := x / 4294967296 / 65536 / 256) (m := blen (x / 4294967296 / 65536 / 256))); rfl; rfl; exact hc.out; exact Salg.underlying9; exact HT.out _ hlt.out; simp only [Act.put, List.setIfInBounds_toArray, List.set_cons_zero, List.set_cons_succ])
        go_ret
        exact ⟨by first | exact len_end HE.out hle.out (by decide) rfl | exact len_end0 HE.out hle.out, rfl⟩
      · have d8 : decide ((256 : Int) ≤ (x : Int) / 4294967296 / 65536) = false := by simp; omega
        have HE : Hid (blen x = 48 + blen (x / 4294967296 / 65536)) := by show _ = _; have e32 := blen_shift (k := 32) (x := x) h32; rw [show (2 : Nat) ^ 32 = 4294967296 from rfl] at e32; have e16 := blen_shift (k := 16) (x := x / 4294967296) h16; rw [show (2 : Nat) ^ 16 = 65536 from rfl] at e16; omega
        have hle := hid (blen_le (k := 8) (show x / 4294967296 / 65536 < 2 ^ 8 by omega))
        have hlt := hid (show x / 4294967296 / 65536 < 256 by omega)
        have HX := hid hx
        have hc := hid (show (x : Int) / 4294967296 / 65536 % 256 = ((x / 4294967296 / 65536 : Nat) : Int) by omega)
        clear hx h32 h16 h8
        go_enter Salg.func203, Salg.ntmps203
        generalize hT : ({ data := (([0, 1, 2, 2, 3, 3, 3, 3, 4, 4, 4, 4, 4, 4, 4, 4, 5, 5, 5, 5, 5, 5, 5, 5, 5, 5, 5, 5, 5, 5, 5, 5, 6, 6, 6, 6, 6, 6, 6, 6, 6, 6, 6, 6, 6, 6, 6, 6, 6, 6, 6, 6, 6, 6, 6, 6, 6, 6, 6, 6, 6, 6, 6, 6].append [7, 7, 7, 7, 7, 7, 7, 7, 7, 7, 7, 7, 7, 7, 7, 7, 7, 7, 7, 7, 7, 7, 7, 7, 7, 7, 7, 7, 7, 7, 7, 7, 7, 7, 7, 7, 7, 7, 7, 7, 7, 7, 7, 7, 7, 7, 7, 7, 7, 7, 7, 7, 7, 7, 7, 7, 7, 7, 7, 7, 7, 7, 7, 7]).append ([8, 8, 8, 8, 8, 8, 8, 8, 8, 8, 8, 8, 8, 8, 8, 8, 8, 8, 8, 8, 8, 8, 8, 8, 8, 8, 8, 8, 8, 8, 8, 8, 8, 8, 8, 8, 8, 8, 8, 8, 8, 8, 8, 8, 8, 8, 8, 8, 8, 8, 8, 8, 8, 8, 8, 8, 8, 8, 8, 8, 8, 8, 8, 8].append [8, 8, 8, 8, 8, 8, 8, 8, 8, 8, 8, 8, 8, 8, 8, 8, 8, 8, 8, 8, 8, 8, 8, 8, 8, 8, 8, 8, 8, 8, 8, 8, 8, 8, 8, 8, 8, 8, 8, 8, 8, 8, 8, 8, 8, 8, 8, 8, 8, 8, 8, 8, 8, 8, 8, 8, 8, 8, 8, 8, 8, 8, 8, 8])).toArray } : ByteArray) = T
        have HT : Hid (∀ n, n < 256 → ∃ b : UInt8, T[n]? = some b ∧ b.toNat = blen n) := fun n hn => by rw [← hT]; exact tab8_ex hn
        clear hT
        go_wp2_with ((with_reducible apply W_indexStr (n := x / 4294967296 / 65536) (m := blen (x / 4294967296 / 65536))); rfl; rfl; exact hc.out; exact Salg.underlying9; exact HT.out _ hlt.out; simp only [Act.put, List.setIfInBounds_toArray, List.set_cons_zero, List.set_cons_succ])
        go_ret
        exact ⟨by first | exact len_end HE.out hle.out (by decide) rfl | exact len_end0 HE.out hle.out, rfl⟩
    · have d16 : decide ((65536 : Int) ≤ (x : Int) / 4294967296) = false := by simp; omega
      by_cases h8 : 256 ≤ x / 4294967296
      · have d8 : decide ((256 : Int) ≤ (x : Int) / 4294967296) = true := by simp; omega
        have HE : Hid (blen x = 40 + blen (x / 4294967296 / 256)) := by show _ = _; have e32 := blen_shift (k := 32) (x := x) h32; rw [show (2 : Nat) ^ 32 = 4294967296 from rfl] at e32; have e8 := blen_shift (k := 8) (x := x / 4294967296) h8; rw [show (2 : Nat) ^ 8 = 256 from rfl] at e8; omega
        have hle := hid (blen_le (k := 8) (show x / 4294967296 / 256 < 2 ^ 8 by omega))
        have hlt := hid (show x / 4294967296 / 256 < 256 by omega)
        have HX := hid hx
        have hc := hid (show (x : Int) / 4294967296 / 256 % 256 = ((x / 4294967296 / 256 : Nat) : Int) by omega)
        clear hx h32 h16 h8
        go_enter Salg.func203, Salg.ntmps203
        generalize hT : ({ data := (([0, 1, 2, 2, 3, 3, 3, 3, 4, 4, 4, 4, 4, 4, 4, 4, 5, 5, 5, 5, 5, 5, 5, 5, 5, 5, 5, 5, 5, 5, 5, 5, 6, 6, 6, 6, 6, 6, 6, 6, 6, 6, 6, 6, 6, 6, 6, 6, 6, 6, 6, 6, 6, 6, 6, 6, 6, 6, 6, 6, 6, 6, 6, 6].append [7, 7, 7, 7, 7, 7, 7, 7, 7, 7, 7, 7, 7, 7, 7, 7, 7, 7, 7, 7, 7, 7, 7, 7, 7, 7, 7, 7, 7, 7, 7, 7, 7, 7, 7, 7, 7, 7, 7, 7, 7, 7, 7, 7, 7, 7, 7, 7, 7, 7, 7, 7, 7, 7, 7, 7, 7, 7, 7, 7, 7, 7, 7, 7]).append ([8, 8, 8, 8, 8, 8, 8, 8, 8, 8, 8, 8, 8, 8, 8, 8, 8, 8, 8, 8, 8, 8, 8, 8, 8, 8, 8, 8, 8, 8, 8, 8, 8, 8, 8, 8, 8, 8, 8, 8, 8, 8, 8, 8, 8, 8, 8, 8, 8, 8, 8, 8, 8, 8, 8, 8, 8, 8, 8, 8, 8, 8, 8, 8].append [8, 8, 8, 8, 8, 8, 8, 8, 8, 8, 8, 8, 8, 8, 8, 8, 8, 8, 8, 8, 8, 8, 8, 8, 8, 8, 8, 8, 8, 8, 8, 8, 8, 8, 8, 8, 8, 8, 8, 8, 8, 8, 8, 8, 8, 8, 8, 8, 8, 8, 8, 8, 8, 8, 8, 8, 8, 8, 8, 8, 8, 8, 8, 8])).toArray } : ByteArray) = T
        have HT : Hid (∀ n, n < 256 → ∃ b : UInt8, T[n]? = some b ∧ b.toNat = blen n) := fun n hn => by rw [← hT]; exact tab8_ex hn
        clear hT
        go_wp2_with ((with_reducible apply W_indexStr (n := x / 4294967296 / 256) (m := blen (x / 4294967296 / 256))); rfl; rfl; exact hc.out; exact Salg.underlying9; exact HT.out _ hlt.out; simp only [Act.put, List.setIfInBounds_toArray, List.set_cons_zero, List.set_cons_succ])
        go_ret
        exact ⟨by first | exact len_end HE.out hle.out (by decide) rfl | exact len_end0 HE.out hle.out, rfl⟩
      · have d8 : decide ((256 : Int) ≤ (x : Int) / 4294967296) = false := by simp; omega
        have HE : Hid (blen x = 32 + blen (x / 4294967296)) := by show _ = _; have e32 := blen_shift (k := 32) (x := x) h32; rw [show (2 : Nat) ^ 32 = 4294967296 from rfl] at e32; omega
        have hle := hid (blen_le (k := 8) (show x / 4294967296 < 2 ^ 8 by omega))
        have hlt := hid (show x / 4294967296 < 256 by omega)
        have HX := hid hx
        have hc := hid (show (x : Int) / 4294967296 % 256 = ((x / 4294967296 : Nat) : Int) by omega)
        clear hx h32 h16 h8
        go_enter Salg.func203, Salg.ntmps203
        generalize hT : ({ data := (([0, 1, 2, 2, 3, 3, 3, 3, 4, 4, 4, 4, 4, 4, 4, 4, 5, 5, 5, 5, 5, 5, 5, 5, 5, 5, 5, 5, 5, 5, 5, 5, 6, 6, 6, 6, 6, 6, 6, 6, 6, 6, 6, 6, 6, 6, 6, 6, 6, 6, 6, 6, 6, 6, 6, 6, 6, 6, 6, 6, 6, 6, 6, 6].append [7, 7, 7, 7, 7, 7, 7, 7, 7, 7, 7, 7, 7, 7, 7, 7, 7, 7, 7, 7, 7, 7, 7, 7, 7, 7, 7, 7, 7, 7, 7, 7, 7, 7, 7, 7, 7, 7, 7, 7, 7, 7, 7, 7, 7, 7, 7, 7, 7, 7, 7, 7, 7, 7, 7, 7, 7, 7, 7, 7, 7, 7, 7, 7]).append ([8, 8, 8, 8, 8, 8, 8, 8, 8, 8, 8, 8, 8, 8, 8, 8, 8, 8, 8, 8, 8, 8, 8, 8, 8, 8, 8, 8, 8, 8, 8, 8, 8, 8, 8, 8, 8, 8, 8, 8, 8, 8, 8, 8, 8, 8, 8, 8, 8, 8, 8, 8, 8, 8, 8, 8, 8, 8, 8, 8, 8, 8, 8, 8].append [8, 8, 8, 8, 8, 8, 8, 8, 8, 8, 8, 8, 8, 8, 8, 8, 8, 8, 8, 8, 8, 8, 8, 8, 8, 8, 8, 8, 8, 8, 8, 8, 8, 8, 8, 8, 8, 8, 8, 8, 8, 8, 8, 8, 8, 8, 8, 8, 8, 8, 8, 8, 8, 8, 8, 8, 8, 8, 8, 8, 8, 8, 8, 8])).toArray } : ByteArray) = T
        have HT : Hid (∀ n, n < 256 → ∃ b : UInt8, T[n]? = some b ∧ b.toNat = blen n) := fun n hn => by rw [← hT]; exact tab8_ex hn
        clear hT
        go_wp2_with ((with_reducible apply W_indexStr (n := x / 4294967296) (m := blen (x / 4294967296))); rfl; rfl; exact hc.out; exact Salg.underlying9; exact HT.out _ hlt.out; simp only [Act.put, List.setIfInBounds_toArray, List.set_cons_zero, List.set_cons_succ])
        go_ret
        exact ⟨by first | exact len_end HE.out hle.out (by decide) rfl | exact len_end0 HE.out hle.out, rfl⟩
  · have d32 : decide ((4294967296 : Int) ≤ (x : Int)) = false := by simp; omega
    by_cases h16 : 65536 ≤ x
    · have d16 : decide ((65536 : Int) ≤ (x : Int)) = true := by simp; omega
      by_cases h8 : 256 ≤ x / 65536
      · have d8 : decide ((256 : Int) ≤ (x : Int) / 65536) = true := by simp; omega
        have HE : Hid (blen x = 24 + blen (x / 65536 / 256)) := by show _ = _; have e16 := blen_shift (k := 16) (x := x) h16; rw [show (2 : Nat) ^ 16 = 65536 from rfl] at e16; have e8 := blen_shift (k := 8) (x := x / 65536) h8; rw [show (2 : Nat) ^ 8 = 256 from rfl] at e8; omega
        have hle := hid (blen_le (k := 8) (show x / 65536 / 256 < 2 ^ 8 by omega))
        have hlt := hid (show x / 65536 / 256 < 256 by omega)
        have HX := hid hx
        have hc := hid (show (x : Int) / 65536 / 256 % 256 = ((x / 65536 / 256 : Nat) : Int) by omega)
        clear hx h32 h16 h8
        go_enter Salg.func203, Salg.ntmps203
        generalize hT : ({ data := (([0, 1, 2, 2, 3, 3, 3, 3, 4, 4, 4, 4, 4, 4, 4, 4, 5, 5, 5, 5, 5, 5, 5, 5, 5, 5, 5, 5, 5, 5, 5, 5, 6, 6, 6, 6, 6, 6, 6, 6, 6, 6, 6, 6, 6, 6, 6, 6, 6, 6, 6, 6, 6, 6, 6, 6, 6, 6, 6, 6, 6, 6, 6, 6].append [7, 7, 7, 7, 7, 7, 7, 7, 7, 7, 7, 7, 7, 7, 7, 7, 7, 7, 7, 7, 7, 7, 7, 7, 7, 7, 7, 7, 7, 7, 7, 7, 7, 7, 7, 7, 7, 7, 7, 7, 7, 7, 7, 7, 7, 7, 7, 7, 7, 7, 7, 7, 7, 7, 7, 7, 7, 7, 7, 7, 7, 7, 7, 7]).append ([8, 8, 8, 8, 8, 8, 8, 8, 8, 8, 8, 8, 8, 8, 8, 8, 8, 8, 8, 8, 8, 8, 8, 8, 8, 8, 8, 8, 8, 8, 8, 8, 8, 8, 8, 8, 8, 8, 8, 8, 8, 8, 8, 8, 8, 8, 8, 8, 8, 8, 8, 8, 8, 8, 8, 8, 8, 8, 8, 8, 8, 8, 8, 8].append [8, 8, 8, 8, 8, 8, 8, 8, 8, 8, 8, 8, 8, 8, 8, 8, 8, 8, 8, 8, 8, 8, 8, 8, 8, 8, 8, 8, 8, 8, 8, 8, 8, 8, 8, 8, 8, 8, 8, 8, 8, 8, 8, 8, 8, 8, 8, 8, 8, 8, 8, 8, 8, 8, 8, 8, 8, 8, 8, 8, 8, 8, 8, 8])).toArray } : ByteArray) = T
        have HT : Hid (∀ n, n < 256 → ∃ b : UInt8, T[n]? = some b ∧ b.toNat = blen n) := fun n hn => by rw [← hT]; exact tab8_ex hn
        clear hT
        go_wp2_with ((with_reducible apply W_indexStr (n := x / 65536 / 256) (m := blen (x / 65536 / 256))); rfl; rfl; exact hc.out; exact Salg.underlying9; exact HT.out _ hlt.out; simp only [Act.put, List.setIfInBounds_toArray, List.set_cons_zero, List.set_cons_succ])
        go_ret
        exact ⟨by first | exact len_end HE.out hle.out (by decide) rfl | exact len_end0 HE.out hle.out, rfl⟩
      · have d8 : decide ((256 : Int) ≤ (x : Int) / 65536) = false := by simp; omega
        have HE : Hid (blen x = 16 + blen (x / 65536)) := by show _ = _; have e16 := blen_shift (k := 16) (x := x) h16; rw [show (2 : Nat) ^ 16 = 65536 from rfl] at e16; omega
        have hle := hid (blen_le (k := 8) (show x / 65536 < 2 ^ 8 by omega))
        have hlt := hid (show x / 65536 < 256 by omega)
        have HX := hid hx
        have hc := hid (show (x : Int) / 65536 % 256 = ((x / 65536 : Nat) : Int) by omega)
        clear hx h32 h16 h8
        go_enter Salg.func203, Salg.ntmps203
        generalize hT : ({ data := (([0, 1, 2, 2, 3, 3, 3, 3, 4, 4, 4, 4, 4, 4, 4, 4, 5, 5, 5, 5, 5, 5, 5, 5, 5, 5, 5, 5, 5, 5, 5, 5, 6, 6, 6, 6, 6, 6, 6, 6, 6, 6, 6, 6, 6, 6, 6, 6, 6, 6, 6, 6, 6, 6, 6, 6, 6, 6, 6, 6, 6, 6, 6, 6].append [7, 7, 7, 7, 7, 7, 7, 7, 7, 7, 7, 7, 7, 7, 7, 7, 7, 7, 7, 7, 7, 7, 7, 7, 7, 7, 7, 7, 7, 7, 7, 7, 7, 7, 7, 7, 7, 7, 7, 7, 7, 7, 7, 7, 7, 7, 7, 7, 7, 7, 7, 7, 7, 7, 7, 7, 7, 7, 7, 7, 7, 7, 7, 7]).append ([8, 8, 8, 8, 8, 8, 8, 8, 8, 8, 8, 8, 8, 8, 8, 8, 8, 8, 8, 8, 8, 8, 8, 8, 8, 8, 8, 8, 8, 8, 8, 8, 8, 8, 8, 8, 8, 8, 8, 8, 8, 8, 8, 8, 8, 8, 8, 8, 8, 8, 8, 8, 8, 8, 8, 8, 8, 8, 8, 8, 8, 8, 8, 8].append [8, 8, 8, 8, 8, 8, 8, 8, 8, 8, 8, 8, 8, 8, 8, 8, 8, 8, 8, 8, 8, 8, 8, 8, 8, 8, 8, 8, 8, 8, 8, 8, 8, 8, 8, 8, 8, 8, 8, 8, 8, 8, 8, 8, 8, 8, 8, 8, 8, 8, 8, 8, 8, 8, 8, 8, 8, 8, 8, 8, 8, 8, 8, 8])).toArray } : ByteArray) = T
        have HT : Hid (∀ n, n < 256 → ∃ b : UInt8, T[n]? = some b ∧ b.toNat = blen n) := fun n hn => by rw [← hT]; exact tab8_ex hn
        clear hT
        go_wp2_with ((with_reducible apply W_indexStr (n := x / 65536) (m := blen (x / 65536))); rfl; rfl; exact hc.out; exact Salg.underlying9; exact HT.out _ hlt.out; simp only [Act.put, List.setIfInBounds_toArray, List.set_cons_zero, List.set_cons_succ])
        go_ret
        exact ⟨by first | exact len_end HE.out hle.out (by decide) rfl | exact len_end0 HE.out hle.out, rfl⟩
    · have d16 : decide ((65536 : Int) ≤ (x : Int)) = false := by simp; omega
      by_cases h8 : 256 ≤ x
      · have d8 : decide ((256 : Int) ≤ (x : Int)) = true := by simp; omega
        have HE : Hid (blen x = 8 + blen (x / 256)) := by show _ = _; have e8 := blen_shift (k := 8) (x := x) h8; rw [show (2 : Nat) ^ 8 = 256 from rfl] at e8; omega
        have hle := hid (blen_le (k := 8) (show x / 256 < 2 ^ 8 by omega))
        have hlt := hid (show x / 256 < 256 by omega)
        have HX := hid hx
        have hc := hid (show (x : Int) / 256 % 256 = ((x / 256 : Nat) : Int) by omega)
        clear hx h32 h16 h8
        go_enter Salg.func203, Salg.ntmps203
        generalize hT : ({ data := (([0, 1, 2, 2, 3, 3, 3, 3, 4, 4, 4, 4, 4, 4, 4, 4, 5, 5, 5, 5, 5, 5, 5, 5, 5, 5, 5, 5, 5, 5, 5, 5, 6, 6, 6, 6, 6, 6, 6, 6, 6, 6, 6, 6, 6, 6, 6, 6, 6, 6, 6, 6, 6, 6, 6, 6, 6, 6, 6, 6, 6, 6, 6, 6].append [7, 7, 7, 7, 7, 7, 7, 7, 7, 7, 7, 7, 7, 7, 7, 7, 7, 7, 7, 7, 7, 7, 7, 7, 7, 7, 7, 7, 7, 7, 7, 7, 7, 7, 7, 7, 7, 7, 7, 7, 7, 7, 7, 7, 7, 7, 7, 7, 7, 7, 7, 7, 7, 7, 7, 7, 7, 7, 7, 7, 7, 7, 7, 7]).append ([8, 8, 8, 8, 8, 8, 8, 8, 8, 8, 8, 8, 8, 8, 8, 8, 8, 8, 8, 8, 8, 8, 8, 8, 8, 8, 8, 8, 8, 8, 8, 8, 8, 8, 8, 8, 8, 8, 8, 8, 8, 8, 8, 8, 8, 8, 8, 8, 8, 8, 8, 8, 8, 8, 8, 8, 8, 8, 8, 8, 8, 8, 8, 8].append [8, 8, 8, 8, 8, 8, 8, 8, 8, 8, 8, 8, 8, 8, 8, 8, 8, 8, 8, 8, 8, 8, 8, 8, 8, 8, 8, 8, 8, 8, 8, 8, 8, 8, 8, 8, 8, 8, 8, 8, 8, 8, 8, 8, 8, 8, 8, 8, 8, 8, 8, 8, 8, 8, 8, 8, 8, 8, 8, 8, 8, 8, 8, 8])).toArray } : ByteArray) = T
        have HT : Hid (∀ n, n < 256 → ∃ b : UInt8, T[n]? = some b ∧ b.toNat = blen n) := fun n hn => by rw [← hT]; exact tab8_ex hn
        clear hT
        go_wp2_with ((with_reducible apply W_indexStr (n := x / 256) (m := blen (x / 256))); rfl; rfl; exact hc.out; exact Salg.underlying9; exact HT.out _ hlt.out; simp only [Act.put, List.setIfInBounds_toArray, List.set_cons_zero, List.set_cons_succ])
        go_ret
        exact ⟨by first | exact len_end HE.out hle.out (by decide) rfl | exact len_end0 HE.out hle.out, rfl⟩
      · have d8 : decide ((256 : Int) ≤ (x : Int)) = false := by simp; omega
        have HE : Hid (blen x = 0 + blen (x)) := by show _ = _; omega
        have hle := hid (blen_le (k := 8) (show x < 2 ^ 8 by omega))
        have hlt := hid (show x < 256 by omega)
        have HX := hid hx
        have hc := hid (show (x : Int) % 256 = ((x : Nat) : Int) by omega)
        clear hx h32 h16 h8
        go_enter Salg.func203, Salg.ntmps203
        generalize hT : ({ data := (([0, 1, 2, 2, 3, 3, 3, 3, 4, 4, 4, 4, 4, 4, 4, 4, 5, 5, 5, 5, 5, 5, 5, 5, 5, 5, 5, 5, 5, 5, 5, 5, 6, 6, 6, 6, 6, 6, 6, 6, 6, 6, 6, 6, 6, 6, 6, 6, 6, 6, 6, 6, 6, 6, 6, 6, 6, 6, 6, 6, 6, 6, 6, 6].append [7, 7, 7, 7, 7, 7, 7, 7, 7, 7, 7, 7, 7, 7, 7, 7, 7, 7, 7, 7, 7, 7, 7, 7, 7, 7, 7, 7, 7, 7, 7, 7, 7, 7, 7, 7, 7, 7, 7, 7, 7, 7, 7, 7, 7, 7, 7, 7, 7, 7, 7, 7, 7, 7, 7, 7, 7, 7, 7, 7, 7, 7, 7, 7]).append ([8, 8, 8, 8, 8, 8, 8, 8, 8, 8, 8, 8, 8, 8, 8, 8, 8, 8, 8, 8, 8, 8, 8, 8, 8, 8, 8, 8, 8, 8, 8, 8, 8, 8, 8, 8, 8, 8, 8, 8, 8, 8, 8, 8, 8, 8, 8, 8, 8, 8, 8, 8, 8, 8, 8, 8, 8, 8, 8, 8, 8, 8, 8, 8].append [8, 8, 8, 8, 8, 8, 8, 8, 8, 8, 8, 8, 8, 8, 8, 8, 8, 8, 8, 8, 8, 8, 8, 8, 8, 8, 8, 8, 8, 8, 8, 8, 8, 8, 8, 8, 8, 8, 8, 8, 8, 8, 8, 8, 8, 8, 8, 8, 8, 8, 8, 8, 8, 8, 8, 8, 8, 8, 8, 8, 8, 8, 8, 8])).toArray } : ByteArray) = T
        have HT : Hid (∀ n, n < 256 → ∃ b : UInt8, T[n]? = some b ∧ b.toNat = blen n) := fun n hn => by rw [← hT]; exact tab8_ex hn
        clear hT
        go_wp2_with ((with_reducible apply W_indexStr (n := x) (m := blen (x))); rfl; rfl; exact hc.out; exact Salg.underlying9; exact HT.out _ hlt.out; simp only [Act.put, List.setIfInBounds_toArray, List.set_cons_zero, List.set_cons_succ])
        go_ret
        exact ⟨by first | exact len_end HE.out hle.out (by decide) rfl | exact len_end0 HE.out hle.out, rfl⟩

set_option maxHeartbeats 1000000 in
set_option maxRecDepth 100000 in
theorem bitsLz_any (x : Nat) (hx : x < 18446744073709551616) (w : World) :
    Calls Salg.prog 248 #[.int .u64 x] w fun e w' => e = .returned (.int .i64 ((64 - blen x : Nat) : Int)) ∧ w' = w := by
  have h := hid (len64_any x hx)
  have hle := blen_le (k := 64) (x := x) hx
  generalize blen x = L at *
  go_enter Salg.func248, Salg.ntmps248
  go_wp2_with fail
  refine (h.out _).mono ?_
  rintro e w1 ⟨rfl, rfl⟩
  go_wp2_with fail
  go_ret
  exact ⟨by go_num, rfl⟩

set_option maxHeartbeats 1000000 in
set_option maxRecDepth 100000 in
theorem lz64_any (x : Nat) (hx : x < 18446744073709551616) (w : World) :
    Calls Salg.prog 231 #[.int .u64 x] w fun e w' => e = .returned (.int .i64 ((64 - blen x : Nat) : Int)) ∧ w' = w := by
  have h := hid (bitsLz_any x hx)
  generalize 64 - blen x = L at *
  go_enter Salg.func231, Salg.ntmps231
  go_wp2_with fail
  refine (h.out _).mono ?_
  rintro e w1 ⟨rfl, rfl⟩
  go_wp2_with fail
  go_ret
  exact ⟨rfl, rfl⟩
end Go.Proofs.YgcsalGreat

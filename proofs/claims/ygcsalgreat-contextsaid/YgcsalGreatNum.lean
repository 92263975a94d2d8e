/-
  The walks of num: inside, BE64, PutBE64.
-/
import Derived.Test.YgcsalGreatTypes
import Derived.WalkSpells
import Derived.WalkLawsBesides
namespace Go.Own
/-- The number that bytes make, the most significant first. -/
def be (l : List Nat) : Nat := l.foldl (fun x c => x * 256 + c) 0

theorem or_add {a b : Nat} (k : Nat) (ha : a % 2 ^ k = 0) (hb : b < 2 ^ k) : a ||| b = a + b := by
  obtain ⟨c, rfl⟩ : ∃ c, a = 2 ^ k * c := ⟨a / 2 ^ k, by have := Nat.div_add_mod a (2 ^ k); omega⟩
  rw [Nat.mul_comm, ← Nat.shiftLeft_eq, Nat.shiftLeft_add_eq_or_of_lt hb]

theorem bits_or_add (a b : Nat) (k : Nat) (ha : b % 2 ^ k = 0) (hb : a < 2 ^ k) (h1 : a < 18446744073709551616) (h2 : b < 18446744073709551616) : bits .or .u64 (a : Int) (b : Int) = ((a + b : Nat) : Int) := by
  rw [bits_or_u64_nat a b h1 h2, Nat.or_comm, or_add k ha hb, Nat.add_comm]

theorem be8_bits {c0 c1 c2 c3 c4 c5 c6 c7 : Nat} (h0 : c0 < 256) (h1 : c1 < 256) (h2 : c2 < 256) (h3 : c3 < 256) (h4 : c4 < 256) (h5 : c5 < 256) (h6 : c6 < 256) (h7 : c7 < 256) :
    bits .or .u64 (bits .or .u64 (bits .or .u64 (bits .or .u64 (bits .or .u64 (bits .or .u64 (bits .or .u64 (c7 : Int) ((c6 : Int) * 256)) ((c5 : Int) * 65536)) ((c4 : Int) * 16777216)) ((c3 : Int) * 4294967296)) ((c2 : Int) * 1099511627776)) ((c1 : Int) * 281474976710656)) ((c0 : Int) * 72057594037927936)
      = (be [c0, c1, c2, c3, c4, c5, c6, c7] : Nat) := by
  have e1 := bits_or_add c7 (c6 * 256) 8 (by omega) (by omega) (by omega) (by omega)
  have e2 := bits_or_add (c7 + c6 * 256) (c5 * 65536) 16 (by omega) (by omega) (by omega) (by omega)
  have e3 := bits_or_add (c7 + c6 * 256 + c5 * 65536) (c4 * 16777216) 24 (by omega) (by omega) (by omega) (by omega)
  have e4 := bits_or_add (c7 + c6 * 256 + c5 * 65536 + c4 * 16777216) (c3 * 4294967296) 32 (by omega) (by omega) (by omega) (by omega)
  have e5 := bits_or_add (c7 + c6 * 256 + c5 * 65536 + c4 * 16777216 + c3 * 4294967296) (c2 * 1099511627776) 40 (by omega) (by omega) (by omega) (by omega)
  have e6 := bits_or_add (c7 + c6 * 256 + c5 * 65536 + c4 * 16777216 + c3 * 4294967296 + c2 * 1099511627776) (c1 * 281474976710656) 48 (by omega) (by omega) (by omega) (by omega)
  have e7 := bits_or_add (c7 + c6 * 256 + c5 * 65536 + c4 * 16777216 + c3 * 4294967296 + c2 * 1099511627776 + c1 * 281474976710656) (c0 * 72057594037927936) 56 (by omega) (by omega) (by omega) (by omega)
  simp only [Int.natCast_add, Int.natCast_mul, Int.cast_ofNat_Int] at e1 e2 e3 e4 e5 e6 e7
  rw [e1, e2, e3, e4, e5, e6, e7]
  simp only [be, List.foldl]
  omega

/-- Eight bytes of x, the most significant first, laid at off. -/
def put8 (bs : List Nat) (off x : Nat) : List Nat :=
  ((((((((bs.set off (x / 72057594037927936)).set (off + 1) (x / 281474976710656 % 256)).set (off + 2) (x / 1099511627776 % 256)).set (off + 3) (x / 4294967296 % 256)).set (off + 4) (x / 16777216 % 256)).set
    (off + 5) (x / 65536 % 256)).set (off + 6) (x / 256 % 256)).set (off + 7) (x % 256))
theorem put8_length (bs : List Nat) (off x : Nat) : (put8 bs off x).length = bs.length := by simp [put8]

theorem ret_int2 {k : IntKind} {a b : Int} {v : Value} (h : a = b) : Ending.returned (.tuple #[.int k a, v]) = .returned (.tuple #[.int k b, v]) := by rw [h]
theorem ret_int {k : IntKind} {a b : Int} (h : a = b) : Ending.returned (.int k a) = .returned (.int k b) := by rw [h]
end Go.Own
namespace Go.Proofs.YgcsalGreat
open Go.RowKit Go.Own

set_option maxHeartbeats 400000 in
theorem inside_yes (n off : Int) (w : World) (h0 : 0 ≤ off) (h1 : 8 ≤ n) (h2 : off ≤ n - 8) (h3 : n ≤ 1000000) :
    Calls Salg.prog 128 #[.int .i64 n, .int .i64 off] w fun e w' => e = .returned (.bool true) ∧ w' = w := by
  go_enter Salg.func128, Salg.ntmps128
  go_wp2
  go_ret
  exact ⟨rfl, rfl⟩

set_option maxHeartbeats 1000000 in
set_option maxRecDepth 100000 in
theorem be64_any8 (b off : Nat) (bs : List Nat) (c0 c1 c2 c3 c4 c5 c6 c7 : Nat) (w : World) (hr : w.heap[b]? = some (R8 22 bs)) (hn : bs.length = 32) (ho : off + 8 ≤ 32)
    (hl : (bs.drop off).take 8 = [c0, c1, c2, c3, c4, c5, c6, c7]) (h0 : c0 < 256) (h1 : c1 < 256) (h2 : c2 < 256) (h3 : c3 < 256) (h4 : c4 < 256) (h5 : c5 < 256) (h6 : c6 < 256) (h7 : c7 < 256) :
    Calls Salg.prog 37 #[.slice (some ⟨b, 0, none⟩) 32 32, .int .i64 off] w fun e w' => e = .returned (.tuple #[n64 (be [c0, c1, c2, c3, c4, c5, c6, c7]), .bool true]) ∧ Kept [] w w' := by
  have HL : Hid ((bs.drop off).take 8 = [c0, c1, c2, c3, c4, c5, c6, c7]) := hl
  have HB := hid (be8_bits h0 h1 h2 h3 h4 h5 h6 h7)
  clear hl
  have M := (Mem.start w []).add hr (by simp)
  clear hr
  generalize be [c0, c1, c2, c3, c4, c5, c6, c7] = B at *
  go_enter Salg.func37, Salg.ntmps37
  go_wp2_with fail
  refine (inside_yes _ _ _ (by omega) (by omega) (by omega) (by omega)).mono ?_; rintro e w' ⟨rfl, rfl⟩
  go_wp2_with (first
    | ((with_reducible apply W_arrayAt); rfl; exact Salg.underlying33; omega; simp only [Act.put, List.setIfInBounds_toArray, List.set_cons_zero, List.set_cons_succ])
    | ((with_reducible apply W_loadCell); rfl; (first | with_reducible exact M.r0 | with_reducible exact M.r1 | with_reducible exact M.r2 | with_reducible exact M.r3 | with_reducible exact M.r4 | with_reducible exact M.r5 | with_reducible exact M.r6 | assumption | exact M.kept.row (by assumption) (by simp)); (first | exact get_map (by assumption) | exact get_map rfl | rfl); exact Salg.underlying5; rfl; simp only [Act.put, List.setIfInBounds_toArray, List.set_cons_zero, List.set_cons_succ])
    | ((with_reducible apply W_load); rfl; (first | with_reducible exact M.r0 | with_reducible exact M.r1 | with_reducible exact M.r2 | with_reducible exact M.r3 | with_reducible exact M.r4 | with_reducible exact M.r5 | with_reducible exact M.r6 | assumption | exact M.kept.row (by assumption) (by simp)); exact Salg.underlying33; rfl; exact size33; (simp [hn]; omega); rw [extract_map, HL.out]; simp only [Act.put, List.setIfInBounds_toArray, List.set_cons_zero, List.set_cons_succ])
    | ((with_reducible apply W_storeAll0); rfl; rfl; exact M; exact Or.inr hb1; exact size33; rfl; exact one8 _; clear M; intro w2 M)
    | ((with_reducible apply L_allocA M); exact zero33; clear M; intro b1 w1 hb1 M; simp only [Act.put, List.setIfInBounds_toArray, List.set_cons_zero, List.set_cons_succ]))
  go_ret2
  exact ⟨ret_int2 (HB.out), M.kept⟩

/-- BE64, of a list. -/
theorem be64_any (b off : Nat) (bs : List Nat) (w : World) (hr : w.heap[b]? = some (R8 22 bs)) (hn : bs.length = 32) (ho : off + 8 ≤ 32) (hb : ∀ c ∈ bs, c < 256) :
    Calls Salg.prog 37 #[.slice (some ⟨b, 0, none⟩) 32 32, .int .i64 off] w fun e w' => e = .returned (.tuple #[n64 (be ((bs.drop off).take 8)), .bool true]) ∧ Kept [] w w' := by
  have hlen : ((bs.drop off).take 8).length = 8 := by simp; omega
  have hall : ∀ c ∈ (bs.drop off).take 8, c < 256 := fun c hc => hb c (List.mem_of_mem_drop (List.mem_of_mem_take hc))
  match hl : (bs.drop off).take 8, hlen, hall with
  | [c0, c1, c2, c3, c4, c5, c6, c7], _, hall =>
    exact be64_any8 b off bs c0 c1 c2 c3 c4 c5 c6 c7 w hr hn ho hl (hall _ (by simp)) (hall _ (by simp)) (hall _ (by simp)) (hall _ (by simp)) (hall _ (by simp)) (hall _ (by simp)) (hall _ (by simp)) (hall _ (by simp))

theorem be64_int (b : Nat) (o : Int) (bs : List Nat) (w : World) (hr : w.heap[b]? = some (R8 22 bs)) (hn : bs.length = 32) (ho : 0 ≤ o) (ho' : o + 8 ≤ 32) (hb : ∀ c ∈ bs, c < 256) :
    Calls Salg.prog 37 #[.slice (some ⟨b, 0, none⟩) 32 32, .int .i64 o] w fun e w' => e = .returned (.tuple #[n64 (be ((bs.drop o.toNat).take 8)), .bool true]) ∧ Kept [] w w' := by
  obtain ⟨n, rfl⟩ := Int.eq_ofNat_of_zero_le ho
  rw [Int.toNat_natCast]
  exact be64_any b n bs w hr hn (by omega) hb

end Go.Proofs.YgcsalGreat

/-
  law.WordBack: the walks of wordBackHolds and WordBack; the plain law.
-/
import Derived.Test.YgcsalGreatWord
set_option linter.unusedSimpArgs false
namespace Go.Own
theorem be_snoc (l : List Nat) (c : Nat) : be (l ++ [c]) = be l * 256 + c := by simp [be]
theorem be_lt_from (l : List Nat) : ∀ (x n : Nat), x < 256 ^ n → (∀ c ∈ l, c < 256) → l.foldl (fun x c => x * 256 + c) x < 256 ^ (n + l.length) := by
  induction l with
  | nil => intro x n h _; simpa using h
  | cons c l ih =>
    intro x n h hc
    have h2 := hc c (by simp)
    have := ih (x * 256 + c) (n + 1) (by rw [Nat.pow_succ]; omega) (fun d hd => hc d (by simp [hd]))
    rw [List.length_cons, show n + (l.length + 1) = n + 1 + l.length from by omega]
    exact this
theorem be_lt (l : List Nat) (h : ∀ c ∈ l, c < 256) : be l < 256 ^ l.length := by have := be_lt_from l 0 0 (by decide) h; rw [Nat.zero_add] at this; exact this
theorem be_take_succ {l : List Nat} {j : Nat} (h : j < l.length) : be (l.take (j + 1)) = be (l.take j) * 256 + l[j] := by
  rw [List.take_succ_eq_append_getElem h, be_snoc]
theorem shl8_or {x c : Nat} (hx : x < 72057594037927936) (hc : c < 256) : bits .or .u64 ((x : Int) * 256) (c : Int) = ((x * 256 + c : Nat) : Int) := by
  have := bits_or_u64_nat (x * 256) c (by omega) (by omega)
  rw [Int.natCast_mul] at this
  rw [show ((256 : Nat) : Int) = 256 from rfl] at this
  rw [this, or_add 8 (by omega) (by omega)]
end Go.Own
namespace Go.Proofs.YgcsalGreat
open Go.RowKit Go.Own

end Go.Proofs.YgcsalGreat
namespace Go.Own
/-- Eight bytes come back. -/
theorem put8_be (l : List Nat) (off : Nat) (c0 c1 c2 c3 c4 c5 c6 c7 : Nat) (h1 : c1 < 256) (h2 : c2 < 256) (h3 : c3 < 256) (h4 : c4 < 256) (h5 : c5 < 256) (h6 : c6 < 256) (h7 : c7 < 256) :
    put8 l off (be [c0, c1, c2, c3, c4, c5, c6, c7]) = (((((((l.set off c0).set (off + 1) c1).set (off + 2) c2).set (off + 3) c3).set (off + 4) c4).set (off + 5) c5).set (off + 6) c6).set (off + 7) c7 := by
  have e : be [c0, c1, c2, c3, c4, c5, c6, c7] = ((((((c0 * 256 + c1) * 256 + c2) * 256 + c3) * 256 + c4) * 256 + c5) * 256 + c6) * 256 + c7 := by simp [be]
  rw [e]
  unfold put8
  congr
  all_goals omega
theorem back32 (bs : List Nat) (hn : bs.length = 32) (hb : ∀ c ∈ bs, c < 256) :
    put8 (put8 (put8 (put8 (List.replicate 32 0) 0 (be ((bs.drop 0).take 8))) 8 (be ((bs.drop 8).take 8))) 16 (be ((bs.drop 16).take 8))) 24 (be ((bs.drop 24).take 8)) = bs := by
  match bs, hn with
  | [a0, a1, a2, a3, a4, a5, a6, a7, b0, b1, b2, b3, b4, b5, b6, b7, c0, c1, c2, c3, c4, c5, c6, c7, d0, d1, d2, d3, d4, d5, d6, d7], _ =>
    simp only [List.mem_cons, List.not_mem_nil, or_false, forall_eq_or_imp, forall_eq] at hb
    obtain ⟨h0, h1, h2, h3, h4, h5, h6, h7, h8, h9, h10, h11, h12, h13, h14, h15, h16, h17, h18, h19, h20, h21, h22, h23, h24, h25, h26, h27, h28, h29, h30, h31⟩ := hb
    simp only [List.drop_zero, List.drop_succ_cons, List.take_succ_cons, List.take_zero]
    rw [put8_be _ _ _ _ _ _ _ _ _ _ h1 h2 h3 h4 h5 h6 h7, put8_be _ _ _ _ _ _ _ _ _ _ h9 h10 h11 h12 h13 h14 h15, put8_be _ _ _ _ _ _ _ _ _ _ h17 h18 h19 h20 h21 h22 h23, put8_be _ _ _ _ _ _ _ _ _ _ h25 h26 h27 h28 h29 h30 h31]
    simp only [List.replicate_succ, List.replicate_zero, List.set_cons_succ, List.set_cons_zero, Nat.zero_add, Nat.reduceAdd]
end Go.Own
namespace Go.Proofs.YgcsalGreat
open Go.RowKit Go.Own

end Go.Proofs.YgcsalGreat

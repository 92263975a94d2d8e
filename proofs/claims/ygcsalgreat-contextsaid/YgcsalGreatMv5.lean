/-
  Addresses in order: the walks of yp.before; (*yp.Acct).empty of an account with a nonce.
-/
import Derived.Test.YgcsalGreatMv4
import Derived.Laws.IdiomStrings
import Derived.Laws.Strings
set_option linter.unusedSimpArgs false
set_option linter.unusedVariables false
namespace Go.Own
def bts (l : List Nat) : List UInt8 := l.map Nat.toUInt8
/-- Address a stands before b. -/
def adLt (a b : List Nat) : Bool := Op.bytesLess (bts a) (bts b)
def str8 (l : List Nat) : ByteArray := ⟨(bts l).toArray⟩
theorem toList_str (l : List Nat) : (str8 l).toList = bts l := by simp [str8]
theorem run_conv8 {P : Program} {a : Act} {w : World} {dst : Option Tmp} {x : Operand} {s d e ty' : TypeId} {b n cap : Nat} {t : TypeId} {l : List Nat} {pos : String} {after : Array Edge} {g : Option (Nat × Bool)}
    (hx : a.eval x = .slice (some ⟨b, 0, none⟩) n cap) (hr : w.heap[b]? = some (R8 t l)) (hs : Small l) (hn : l.length = n) (hus : P.underlying s = some (.slice e)) (hue : P.underlying e = some (.int .u8)) (hud : P.underlying d = some .string) :
    (execOp a.eval { dst := dst, op := .convert s d x, type := ty', pos := pos, after := after, guard := g }).run P w = .ok (.value (.string (str8 l))) w := by
  subst hn
  have h := run_convert_bytes_back (P := P) w s d e ⟨b, 0, none⟩ cap (bts l) hus hue hud (by
    intro j hj
    have hj' : j < l.length := by simpa [bts] using hj
    have hc : (bts l)[j].toNat = l[j] := by
      simp only [bts, List.getElem_map]
      have := hs.get hj'
      simp [Nat.toUInt8, UInt8.toNat_ofNat', Nat.mod_eq_of_lt this]
    rw [hc]
    have hadd : (Addr.add ⟨b, 0, none⟩ j) = ⟨b, j, none⟩ := by cases j <;> simp [Addr.add]
    simp [World.cell?, hadd, hr, hj'])
  have hl : (bts l).length = l.length := by simp [bts]
  rw [hl] at h
  simp [execOp, hx, h, str8]
end Go.Own
namespace Go.Proofs.YgcsalGreat
open Go.RowKit Go.Own

set_option maxHeartbeats 2000000 in
set_option maxRecDepth 100000 in
theorem before_any (a b : List Nat) (w : World) (ha : a.length = 20) (hb : b.length = 20) (hsa : Small a) (hsb : Small b) : Calls Salg.prog 169 #[A8 a, A8 b] w fun e w' => e = .returned (.bool (adLt a b)) ∧ Kept [] w w' := by
  have M := Mem.start w []
  have HT : Hid (Op.bytesLess (str8 a).toList (str8 b).toList = adLt a b) := by show _ = _; rw [toList_str, toList_str]; rfl
  rw [← HT.out]
  clear HT
  go_enter Salg.func169, Salg.ntmps169
  go_wp2_with (first
    | ((with_reducible apply L_box (d := 2) M); rfl; clear M; intro c1 w1 hc1 M; simp only [Act.put, List.setIfInBounds_toArray, List.set_cons_zero, List.set_cons_succ])
    | ((with_reducible apply L_box (d := 3) M); rfl; clear M; intro c2 w1 hc2 M; simp only [Act.put, List.setIfInBounds_toArray, List.set_cons_zero, List.set_cons_succ]))
  refine S_region (by kernel_rfl) ?_
  refine V_quiet 0 6 (by kernel_rfl) (by decide) M.drew ?_
  clear M
  simp only [List.take_succ_cons, List.take_zero, List.drop_zero, List.drop_succ_cons, Nat.sub_zero, Nat.reduceSub]
  ((with_reducible apply V_run); rfl; (intro w M; exact run_sliceArr (l := 0) (h := 20) (m := 20) rfl Salg.underlying45 size5 (by (first | exact Or.inl ⟨rfl, rfl⟩ | exact Or.inr ⟨_, _, _, rfl, rfl, by omega⟩)) (by (first | exact Or.inl ⟨rfl, rfl⟩ | exact Or.inr ⟨_, _, _, rfl, rfl, by omega⟩)) (by (first | exact Or.inl ⟨rfl, rfl⟩ | exact Or.inr ⟨_, _, _, rfl, rfl, by omega⟩)) (by first | exact Or.inl rfl | exact Or.inr rfl) (by omega) (by omega) (by omega) (by omega)); (try simp only [Nat.zero_add, Nat.sub_zero]); simp only [Act.put, List.setIfInBounds_toArray, List.set_cons_zero, List.set_cons_succ])
  ((with_reducible apply V_run); rfl; (intro w M; exact run_conv8 rfl (by (first | with_reducible exact M.r0 | with_reducible exact M.r1 | with_reducible exact M.r2 | with_reducible exact M.r3 | with_reducible exact M.r4 | with_reducible exact M.r5 | with_reducible exact M.r6 | assumption | exact M.kept.row (by assumption) (by simp))) hsa (by rw [ha]) Salg.underlying40 Salg.underlying5 Salg.underlying9); simp only [Act.put, List.setIfInBounds_toArray, List.set_cons_zero, List.set_cons_succ])
  ((with_reducible apply V_run); rfl; (intro w M; exact run_sliceArr (l := 0) (h := 20) (m := 20) rfl Salg.underlying45 size5 (by (first | exact Or.inl ⟨rfl, rfl⟩ | exact Or.inr ⟨_, _, _, rfl, rfl, by omega⟩)) (by (first | exact Or.inl ⟨rfl, rfl⟩ | exact Or.inr ⟨_, _, _, rfl, rfl, by omega⟩)) (by (first | exact Or.inl ⟨rfl, rfl⟩ | exact Or.inr ⟨_, _, _, rfl, rfl, by omega⟩)) (by first | exact Or.inl rfl | exact Or.inr rfl) (by omega) (by omega) (by omega) (by omega)); (try simp only [Nat.zero_add, Nat.sub_zero]); simp only [Act.put, List.setIfInBounds_toArray, List.set_cons_zero, List.set_cons_succ])
  ((with_reducible apply V_run); rfl; (intro w M; exact run_conv8 rfl (by (first | with_reducible exact M.r0 | with_reducible exact M.r1 | with_reducible exact M.r2 | with_reducible exact M.r3 | with_reducible exact M.r4 | with_reducible exact M.r5 | with_reducible exact M.r6 | assumption | exact M.kept.row (by assumption) (by simp))) hsb (by rw [hb]) Salg.underlying40 Salg.underlying5 Salg.underlying9); simp only [Act.put, List.setIfInBounds_toArray, List.set_cons_zero, List.set_cons_succ])
  ((with_reducible apply V_run); rfl; (intro w M; go_simp; (try go_ints); (try simp only [↓IntWalk.iteOmega]); (try with_reducible rfl)); simp only [Act.put, List.setIfInBounds_toArray, List.set_cons_zero, List.set_cons_succ])
  ((with_reducible apply V_run); rfl; (intro w M; go_simp; (try go_ints); (try simp only [↓IntWalk.iteOmega]); (try with_reducible rfl)); simp only [Act.put, List.setIfInBounds_toArray, List.set_cons_zero, List.set_cons_succ])
  refine V_nil ?_
  intro w4 M
  refine S_done ?_
  go_wp2_with fail
  go_ret
  exact ⟨rfl, M.kept⟩

set_option maxHeartbeats 2000000 in
set_option maxRecDepth 100000 in
theorem empty_no (c : Nat) (q : Ac) (nv : Value) (N : Nat) (w : World) (hr : w.heap[c]? = some (.cells q.cells.toArray 128 (0, 0))) (hq : q.Ok) (hn : q.rest[0]? = some nv) (hN : NumV w nv N) (h0 : N ≠ 0) :
    Calls Salg.prog 127 #[.pointer (some ⟨c, 0, none⟩)] w fun e w' => e = .returned (.bool false) ∧ Kept [] w w' := by
  have hc : q.cells.toArray[20]? = some nv := by
    simp only [Ac.cells, List.getElem?_toArray]
    rw [List.getElem?_append_right (by simp [hq.ha])]
    simpa [hq.ha] using hn
  have HC := hid (isZero_any nv N w hN)
  rw [decide_eq_false h0] at HC
  clear hN
  go_enter Salg.func127, Salg.ntmps127
  go_wp2_with ((with_reducible apply W_loadCell (i := 20)); rfl; exact hr; exact hc; exact Salg.underlying89; rfl; simp only [Act.put, List.setIfInBounds_toArray, List.set_cons_zero, List.set_cons_succ])
  refine HC.out.mono ?_
  rintro e w2 ⟨rfl, K⟩
  go_wp2_with fail
  go_ret
  exact ⟨rfl, K⟩
end Go.Proofs.YgcsalGreat

/-
  '==' on a struct of two words; the walk of law.storeLoadHolds.
-/
import Derived.Test.YgcsalGreatSl37
import Derived.Test.YgcsalGreatSl36
set_option linter.unusedSimpArgs false
set_option linter.unusedVariables false
namespace Go.Own
section
variable {P : Program}
theorem run_part_agg {w : World} {t e : TypeId} {n : Nat} {cs : Array Value} {off : Nat} (hu : P.underlying t = some (.array n e)) (hs : (P.info? t).map (·.size) = some 32) : (part t cs off).run P w = .ok (.agg (cs.extract off (off + 32))) w := by
  have hagg : (isAgg t).run P w = .ok true w := by
    unfold isAgg
    rw [Sem.run_bind, run_underlying hu w]
    rfl
  have hsz : (sizeOf t).run P w = .ok 32 w := by
    cases hq : P.info? t with
    | none => simp [hq] at hs
    | some i => simp [sizeOf, typeInfo, hq] at hs ⊢; exact hs
  simp [part, Sem.run_bind, hagg, hsz]
/-- '==' on a struct of two arrays of 32 bytes. -/
theorem run_eqS2 {w : World} (d : Nat) {t ta elem : TypeId} {f1 f2 : Field} (x1 x2 y1 y2 : List Nat) (hu : P.underlying t = some (.struct #[f1, f2])) (h1 : f1.type = ta) (h2 : f2.type = ta) (o1 : f1.offset = 0) (o2 : f2.offset = 32) (n1 : f1.name ≠ "_") (n2 : f2.name ≠ "_") (hst : P.stoodInHeld t = false)
    (hua : P.underlying ta = some (.array 32 elem)) (hsa : (P.info? ta).map (·.size) = some 32) (he : P.underlying elem = some (.int .u8)) (hse : (P.info? elem).map (·.size) = some 1)
    (l1 : x1.length = 32) (l2 : x2.length = 32) (k1 : y1.length = 32) (k2 : y2.length = 32) :
    (Op.equalIn (d + 3) t (.agg ((x1 ++ x2).map n8).toArray) (.agg ((y1 ++ y2).map n8).toArray)).run P w = .ok (decide (x1 = y1) && decide (x2 = y2)) w := by
  have ex : ∀ (a b : List Nat), a.length = 32 → b.length = 32 → ((a ++ b).map n8).toArray.extract 0 32 = (a.map n8).toArray ∧ ((a ++ b).map n8).toArray.extract 32 64 = (b.map n8).toArray := by
    intro a b ha hb
    constructor
    · apply Array.ext_getElem?
      intro k
      rcases Nat.lt_or_ge k 32 with hk | hk
      · rw [Array.getElem?_extract, if_pos (by simp; omega)]
        simp only [List.map_append, List.getElem?_toArray]
        rw [List.getElem?_append_left (by simp; omega)]
        simp
      · rw [Array.getElem?_extract, if_neg (by simp; omega)]
        simp [ha, hk]
    · apply Array.ext_getElem?
      intro k
      rcases Nat.lt_or_ge k 32 with hk | hk
      · rw [Array.getElem?_extract, if_pos (by simp; omega)]
        simp only [List.map_append, List.getElem?_toArray]
        rw [List.getElem?_append_right (by simp; omega)]
        simp [ha]
      · rw [Array.getElem?_extract, if_neg (by simp; omega)]
        simp [hb, hk]
  obtain ⟨e1, e2⟩ := ex x1 x2 l1 l2
  obtain ⟨g1, g2⟩ := ex y1 y2 k1 k2
  have q1 : (Op.equalIn (d + 2) ta (.agg (x1.map n8).toArray) (.agg (y1.map n8).toArray)).run P w = .ok (decide (x1 = y1)) w := run_eqArr (P := P) (w := w) d (t := ta) (k := .u8) x1 y1 hua he hse l1 k1
  have q2 : (Op.equalIn (d + 2) ta (.agg (x2.map n8).toArray) (.agg (y2.map n8).toArray)).run P w = .ok (decide (x2 = y2)) w := run_eqArr (P := P) (w := w) d (t := ta) (k := .u8) x2 y2 hua he hse l2 k2
  generalize ((x1 ++ x2).map n8).toArray = X at *
  generalize ((y1 ++ y2).map n8).toArray = Y at *
  rw [show d + 3 = (d + 2) + 1 from rfl, Op.equalIn]
  simp only [Sem.run_bind, run_underlying hu, Result.andThen_ok, Go.program]
  simp [Sem.run_bind, h1, h2, o1, o2, n1, n2, run_part_agg hua hsa, e1, e2, g1, g2]
  have hp : Sem.run P (Sem.program Sem.pure) w = .ok P w := rfl
  rw [hp]
  simp only [Result.andThen_ok, hst, Bool.false_eq_true, if_false, q1]
  by_cases hx : x1 = y1
  · simp only [hx, decide_true, Bool.true_eq_false, if_false, q2, Result.andThen_ok, Bool.true_and]
    by_cases hy : x2 = y2
    · simp only [hy, decide_true, Bool.true_eq_false, if_false, Result.andThen_ok]
      rfl
    · simp only [hy, decide_false, if_true, Result.andThen_ok]
      rfl
  · simp only [hx, decide_false, if_true, Bool.false_and]
theorem run_eqlS2 {a : Act} {w : World} {dst : Option Tmp} {x y : Operand} {t ta elem ty ty' : TypeId} {f1 f2 : Field} {pos : String} {after : Array Edge} {g : Option (Nat × Bool)} {x1 x2 y1 y2 : List Nat}
    (hx : a.eval x = .agg ((x1 ++ x2).map n8).toArray) (hy : a.eval y = .agg ((y1 ++ y2).map n8).toArray) (hu : P.underlying t = some (.struct #[f1, f2])) (h1 : f1.type = ta) (h2 : f2.type = ta) (o1 : f1.offset = 0) (o2 : f2.offset = 32) (n1 : f1.name ≠ "_") (n2 : f2.name ≠ "_") (hst : P.stoodInHeld t = false)
    (hua : P.underlying ta = some (.array 32 elem)) (hsa : (P.info? ta).map (·.size) = some 32) (he : P.underlying elem = some (.int .u8)) (hse : (P.info? elem).map (·.size) = some 1) (hg : P.eqGuardType P.depth t = false)
    (l1 : x1.length = 32) (l2 : x2.length = 32) (k1 : y1.length = 32) (k2 : y2.length = 32) :
    (execOp a.eval { dst := dst, op := .binOp .eql t x y ty, type := ty', pos := pos, after := after, guard := g }).run P w = .ok (.value (.bool (decide (x1 = y1) && decide (x2 = y2)))) w := by
  have h := run_eqS2 (P := P) (w := w) 9997 (t := t) x1 x2 y1 y2 hu h1 h2 o1 o2 n1 n2 hst hua hsa he hse l1 l2 k1 k2
  generalize ((x1 ++ x2).map n8).toArray = X at *
  generalize ((y1 ++ y2).map n8).toArray = Y at *
  simp [execOp, hx, hy, eqGuard, Go.program, Sem.run, hg, run_eql_struct, run_neq_struct, h]
end
theorem be_zero_iff : ∀ {l : List Nat}, be l = 0 → ∀ x ∈ l, x = 0 := by
  have h : ∀ (l : List Nat) (a : Nat), l.foldl (fun x c => x * 256 + c) a = 0 → a = 0 ∧ ∀ x ∈ l, x = 0 := by
    intro l
    induction l with
    | nil => intro a h; exact ⟨h, by simp⟩
    | cons b l ih =>
      intro a h
      obtain ⟨h1, h2⟩ := ih _ h
      replace h1 : a * 256 + b = 0 := h1
      refine ⟨by omega, fun x hx => ?_⟩
      rcases List.mem_cons.1 hx with rfl | hx
      · omega
      · exact h2 x hx
  intro l hl
  exact (h l 0 hl).2
theorem be_zero_rep {l : List Nat} (hl : l.length = 32) (h : be l = 0) : l = List.replicate 32 0 := by
  rw [List.eq_replicate_iff]
  exact ⟨hl, be_zero_iff h⟩
/-- The slots that stand for one value at one key. -/
def wantS (k v : List Nat) : Option (List Nat × List Nat) := if be v = 0 then none else some (k, v)
end Go.Own
namespace Go.Proofs.YgcsalGreat
open Go.RowKit Go.Own
theorem guard171 : Salg.prog.eqGuardType Salg.prog.depth 171 = false := by kernel_rfl
theorem stood171 : Salg.prog.stoodInHeld 171 = false := by kernel_rfl

set_option maxHeartbeats 4000000 in
set_option maxRecDepth 100000 in
theorem holds_any (kd U g cap : Nat) (k x y want : List Nat) (ou cv1 s1 cv2 : Value) (cur : Array Value) (w : World) (hkd : kd < 4) (lk : k.length = 32) (lx : x.length = 32) (ly : y.length = 32) (hwant : want = if kd = 1 then y else x) (sw : Small want) (hou : NatV w ou want) (hg : w.heap[g]? = some (.cells cur 123 (0, 0))) (hsz : 165 ≤ cur.size) (e1 : cur.extract 0 (0 + 55) = (oaS 1 1 (List.replicate 32 0) cv1 s1).toArray) (e2 : cur.extract 55 (55 + 55) = (oaS 2 1 (List.replicate 32 0) cv2 nilS).toArray) (hs1 : SlotsO w s1 (wantS k want)) (hc1 : cv1.oneCell' = true) (hc2 : cv2.oneCell' = true) :
    Calls Salg.prog 36 #[.int .u8 kd, A8 k, A8 x, A8 y, .agg (rcL (n64 U) ou).toArray, .slice (some ⟨g, 0, none⟩) 3 cap] w fun e w' => e = .returned (.bool true) ∧ Kept [] w w' := by
  have M := Mem.start w []
  have lw : want.length = 32 := by rw [hwant]; split <;> assumption
  have HS1 := hid hs1.one
  have HSO := hid hs1
  have HW := hid hwant
  have HSW := hid sw
  obtain ⟨b, t, cs, ocap, hob, hcsr, hpre⟩ : ∃ b t cs ocap, ou = .slice (some ⟨b, 0, none⟩) 32 ocap ∧ w.heap[b]? = some (R8 t cs) ∧ want <+: cs := by
    obtain ⟨p, cp, rfl, _, _, hd, _⟩ := hou
    rcases hd with h | ⟨b, t, cs, rfl, h2, h3⟩
    · rw [h] at lw; simp at lw
    · exact ⟨b, t, cs, cp, by rw [lw], h2, h3⟩
  subst hob
  have HPR : Hid (∀ (j z : Nat), want[j]? = some z → (cs.map n8).toArray[0 + j]? = some (n8 z)) := by
    intro j z hj
    obtain ⟨r, rfl⟩ := hpre
    rw [Nat.zero_add, List.getElem?_toArray, List.getElem?_map, List.getElem?_append_left (List.getElem?_eq_some_iff.1 hj).1, hj]
    rfl
  have HWT : Hid (∀ (j z : Nat), want[j]? = some z → (want.map n8).toArray[0 + j]? = some (n8 z)) := by
    intro j z hj
    rw [Nat.zero_add, List.getElem?_toArray, List.getElem?_map, hj]
    rfl
  have HL1 := hid (fun w' (K : Kept [] w w') => lookup_1 g cap cur 1 (List.replicate 32 0) cv1 s1 w' (K.row hg (by simp)) hsz e1 rfl hc1 hs1.one)
  have HL2 := hid (fun w' (K : Kept [] w w') => lookup_2 g cap cur 1 (List.replicate 32 0) cv1 s1 1 (List.replicate 32 0) cv2 nilS w' (K.row hg (by simp)) hsz e1 rfl hc1 hs1.one e2 rfl hc2 rfl)
  have HCS : Hid (w.heap[b]? = some (.cells (cs.map n8).toArray t (0, 0))) := hcsr
  have ho8 : ∀ l : List Nat, ∀ u ∈ (l.map n8).toArray.toList, u.oneCell' = true := by
    intro l u hu
    simp at hu
    obtain ⟨z, _, rfl⟩ := hu
    rfl
  have HO8 := hid ho8
  have HZ : (be want = 0 ∧ s1 = nilS ∧ want = (List.replicate 32 0)) ∨ (want ≠ (List.replicate 32 0) ∧ ∃ gs sc scur, s1 = .slice (some ⟨gs, 0, none⟩) 1 sc ∧ w.heap[gs]? = some (.cells scur 171 (0, 0)) ∧ 64 ≤ scur.size ∧ scur.extract 0 (0 + 64) = ((k ++ want).map n8).toArray) := by
    unfold wantS at hs1
    by_cases hz : be want = 0
    · rw [if_pos hz] at hs1
      exact .inl ⟨hz, hs1, be_zero_rep lw hz⟩
    · rw [if_neg hz] at hs1
      exact .inr ⟨fun e => hz (by rw [e]; exact be_zero32), hs1⟩
  have HZ' := hid HZ
  clear hou hpre hwant sw hcsr hg e1 e2 hs1 hc1 hc2 HZ HSO ho8
  have HKC : (kd = 1 ∧ Hid (want = y)) ∨ (decide ((kd : Int) = 1) = false ∧ Hid (want = x)) := by
    by_cases h : kd = 1
    · exact .inl ⟨h, by show _ = _; rw [HW.out, if_pos h]⟩
    · exact .inr ⟨by simp; omega, by show _ = _; rw [HW.out, if_neg h]⟩
  rcases HKC with ⟨hk1, HE⟩ | ⟨dk, HE⟩
  · subst hk1
    go_enter Salg.func36, Salg.ntmps36
    go_wp2_with (first
      | ((with_reducible apply L_box (d := 7) M); rfl; clear M; intro t7 w1 ht7 M; simp only [Act.put, List.setIfInBounds_toArray, List.set_cons_zero, List.set_cons_succ])
      | ((with_reducible apply L_box (d := 8) M); rfl; clear M; intro t8 w1 ht8 M; simp only [Act.put, List.setIfInBounds_toArray, List.set_cons_zero, List.set_cons_succ])
      | ((with_reducible apply L_box (d := 9) M); rfl; clear M; intro t9 w1 ht9 M; simp only [Act.put, List.setIfInBounds_toArray, List.set_cons_zero, List.set_cons_succ])
      | ((with_reducible apply L_box (d := 10) M); rfl; clear M; intro t10 w1 ht10 M; simp only [Act.put, List.setIfInBounds_toArray, List.set_cons_zero, List.set_cons_succ])
      | ((with_reducible apply W_loadAll); rfl; exact M.r2; exact Salg.underlying22; rfl; (rw [size22]; simp [lx]); simp only [Act.put, List.setIfInBounds_toArray, List.set_cons_zero, List.set_cons_succ])
      | ((with_reducible apply L_allocA (d := 13) M); exact zero22; clear M; intro t13 w1 ht13 M; simp only [Act.put, List.setIfInBounds_toArray, List.set_cons_zero, List.set_cons_succ])
      | ((with_reducible apply W_storeK (b := t13) (vs := (x.map n8).toArray)); rfl; rfl; exact M.r0; exact size22; (simp [lx]); exact HO8.out _; intro w3 K hr3; replace M := Mem.callPut (L1 := []) M (Or.inr ht13) K hr3; clear K hr3; simp only [List.nil_append] at M)
      | ((with_reducible apply W_loadAll (dst := 18)); rfl; exact M.r2; exact Salg.underlying22; rfl; (rw [size22]; simp [ly]); simp only [Act.put, List.setIfInBounds_toArray, List.set_cons_zero, List.set_cons_succ])
      | ((with_reducible apply W_storeK (b := t13) (vs := (y.map n8).toArray)); rfl; rfl; exact M.r0; (rw [size22]; simp [lx]); (simp [lx, ly]); exact HO8.out _; intro w3 K hr3; replace M := Mem.callPut (L1 := []) M (Or.inr ht13) K hr3; clear K hr3; simp only [List.nil_append] at M))
    rw [← HE.out] at M
    refine S_region (by kernel_rfl) ?_
    refine E_stage 0 18 [0, 1, 2, 3, 4, 5, 6, 7, 8, 9, 10, 11, 12, 13, 14, 15, 16, 17] (by kernel_rfl) M.drew ?_
    clear M
    simp only [List.filterMap_cons, List.filterMap_nil, List.getElem?_cons_zero, List.getElem?_cons_succ]
    ((with_reducible apply E_run); rfl; rfl; (intro w M; go_simp; (try go_ints); (try simp only [↓IntWalk.iteOmega]); (try with_reducible rfl)); simp only [Act.put, List.setIfInBounds_toArray, List.set_cons_zero, List.set_cons_succ])
    ((with_reducible apply E_run); rfl; rfl; (intro w M; exact run_loadCell (M.r1) rfl (show (rcL (n64 U) (.slice (some ⟨b, 0, none⟩) 32 ocap)).toArray[1]? = some (.int .u8 0) by kernel_rfl) Salg.underlying5 rfl); simp only [Act.put, List.setIfInBounds_toArray, List.set_cons_zero, List.set_cons_succ])
    ((with_reducible apply E_run); rfl; rfl; (intro w M; go_simp; (try go_ints); (try simp only [↓IntWalk.iteOmega]); (try with_reducible rfl)); simp only [Act.put, List.setIfInBounds_toArray, List.set_cons_zero, List.set_cons_succ])
    ((with_reducible apply E_run); rfl; rfl; (intro w M; go_simp; (try go_ints); (try simp only [↓IntWalk.iteOmega]); (try with_reducible rfl)); simp only [Act.put, List.setIfInBounds_toArray, List.set_cons_zero, List.set_cons_succ])
    ((with_reducible apply E_run); rfl; rfl; (intro w M; go_simp; (try go_ints); (try simp only [↓IntWalk.iteOmega]); (try with_reducible rfl)); simp only [Act.put, List.setIfInBounds_toArray, List.set_cons_zero, List.set_cons_succ])
    ((with_reducible apply E_run); rfl; rfl; (intro w M; exact run_loadCell (M.r1) rfl (show (rcL (n64 U) (.slice (some ⟨b, 0, none⟩) 32 ocap)).toArray[3]? = some (.slice (some ⟨b, 0, none⟩) 32 ocap) by kernel_rfl) Salg.underlying40 rfl); simp only [Act.put, List.setIfInBounds_toArray, List.set_cons_zero, List.set_cons_succ])
    ((with_reducible apply E_run); rfl; rfl; (intro w M; exact run_sliceArr (l := 0) (h := 32) (m := 32) rfl Salg.underlying22 size5 (by (first | exact Or.inl ⟨rfl, rfl⟩ | exact Or.inr ⟨_, _, _, rfl, rfl, by omega⟩)) (by (first | exact Or.inl ⟨rfl, rfl⟩ | exact Or.inr ⟨_, _, _, rfl, rfl, by omega⟩)) (by (first | exact Or.inl ⟨rfl, rfl⟩ | exact Or.inr ⟨_, _, _, rfl, rfl, by omega⟩)) (by first | exact Or.inl rfl | exact Or.inr rfl) (by omega) (by omega) (by omega) (by omega)); (try simp only [Nat.zero_add, Nat.sub_zero]); simp only [Act.put, List.setIfInBounds_toArray, List.set_cons_zero, List.set_cons_succ])
    refine E_call rfl Salg.func105 (by kernel_rfl) (by kernel_rfl) (args := [.slice (some ⟨b, 0, none⟩) 32 ocap, .slice (some ⟨t13, 0, none⟩) 32 32]) rfl ?_
    intro w1 K M
    clear K
    refine (equalBytes_yes b 0 t t13 0 22 ocap 32 _ _ want 32 _ (M.kept.row HCS.out (by simp)) M.r0 HPR.out HWT.out lw HSW.out).mono ?_
    rintro e w4 ⟨rfl, hw⟩
    replace hw := hw.symm
    subst hw
    refine ⟨_, rfl, trivial, M, ?_⟩
    simp only [Act.put, List.setIfInBounds_toArray, List.set_cons_zero, List.set_cons_succ]
    ((with_reducible apply E_run); rfl; rfl; (intro w M; go_simp; (try go_ints); (try simp only [↓IntWalk.iteOmega]); (try with_reducible rfl)); simp only [Act.put, List.setIfInBounds_toArray, List.set_cons_zero, List.set_cons_succ])
    ((with_reducible apply E_run); rfl; rfl; (intro w M; go_simp; (try go_ints); (try simp only [↓IntWalk.iteOmega]); (try with_reducible rfl)); simp only [Act.put, List.setIfInBounds_toArray, List.set_cons_zero, List.set_cons_succ])
    ((with_reducible apply E_run); rfl; rfl; (intro w M; go_simp; (try go_ints); (try simp only [↓IntWalk.iteOmega]); (try with_reducible rfl)); simp only [Act.put, List.setIfInBounds_toArray, List.set_cons_zero, List.set_cons_succ])
    ((with_reducible apply E_run); rfl; rfl; (intro w M; go_simp; (try go_ints); (try simp only [↓IntWalk.iteOmega]); (try with_reducible rfl)); simp only [Act.put, List.setIfInBounds_toArray, List.set_cons_zero, List.set_cons_succ])
    refine E_call rfl Salg.func82 (by kernel_rfl) (by kernel_rfl) (args := [.int .u8 2]) rfl ?_
    intro w1 K M
    clear K
    refine (addrNo_any 2 _).mono ?_
    rintro e w5 ⟨rfl, K⟩
    replace M := M.call K
    refine ⟨_, rfl, trivial, M, ?_⟩
    clear K
    simp only [Act.put, List.setIfInBounds_toArray, List.set_cons_zero, List.set_cons_succ]
    refine E_call rfl Salg.func126 (by kernel_rfl) (by kernel_rfl) (args := [.slice (some ⟨g, 0, none⟩) 3 cap, A8 (ad 2)]) rfl ?_
    intro w1 K M
    clear K
    refine (HL2.out _ M.kept).mono ?_
    rintro e w6 ⟨rfl, K⟩
    replace M := M.call K
    refine ⟨_, rfl, trivial, M, ?_⟩
    clear K
    simp only [Act.put, List.setIfInBounds_toArray, List.set_cons_zero, List.set_cons_succ]
    ((with_reducible apply E_run (v := nilS)); rfl; rfl; (intro w M; kernel_rfl); simp only [Act.put, List.setIfInBounds_toArray, List.set_cons_zero, List.set_cons_succ])
    ((with_reducible apply E_run); rfl; rfl; (intro w M; go_simp; (try go_ints); (try simp only [↓IntWalk.iteOmega]); (try with_reducible rfl)); simp only [Act.put, List.setIfInBounds_toArray, List.set_cons_zero, List.set_cons_succ])
    ((with_reducible apply E_run); rfl; rfl; (intro w M; go_simp; (try go_ints); (try simp only [↓IntWalk.iteOmega]); (try with_reducible rfl)); simp only [Act.put, List.setIfInBounds_toArray, List.set_cons_zero, List.set_cons_succ])
    ((with_reducible apply E_run); rfl; rfl; (intro w M; go_simp; (try go_ints); (try simp only [↓IntWalk.iteOmega]); (try with_reducible rfl)); simp only [Act.put, List.setIfInBounds_toArray, List.set_cons_zero, List.set_cons_succ])
    refine E_nil ?_
    intro w7 K M
    clear K
    refine S_done ?_
    go_wp2_with fail
    refine (addrNo_any 1 _).mono ?_
    rintro e w8 ⟨rfl, K⟩
    replace M := M.call K
    clear K
    go_wp2_with fail
    refine (HL1.out _ M.kept).mono ?_
    rintro e w9 ⟨rfl, K⟩
    replace M := M.call K
    clear K
    rcases HZ'.out with ⟨_, xs1, xw⟩ | ⟨xw, gs, sc, scur, xs1, xg, xz, xe⟩
    · subst xs1
      have DE : Hid (decide (want = (List.replicate 32 0)) = true) := decide_eq_true xw
      have DX : Hid (want.length = 32) := lw
      clear xw HE HW
      go_wp2_with (first
        | ((with_reducible apply W_field (v := nilS)); kernel_rfl; simp only [Act.put, List.setIfInBounds_toArray, List.set_cons_zero, List.set_cons_succ])
        | ((with_reducible apply W_loadAll); rfl; exact M.r0; exact Salg.underlying22; rfl; (rw [size22]; simp [lw]); simp only [Act.put, List.setIfInBounds_toArray, List.set_cons_zero, List.set_cons_succ])
        | ((with_reducible apply W_buildV (d := 42) (v := A8 (List.replicate 32 0))); kernel_rfl; simp only [Act.put, List.setIfInBounds_toArray, List.set_cons_zero, List.set_cons_succ])
        | ((with_reducible apply W_eql8 (l := want) (l' := (List.replicate 32 0))); rfl; rfl; exact Salg.underlying22; exact Salg.underlying5; exact size5; exact guard22; exact lw; rfl; rw [DE.out]; simp only [Act.put, List.setIfInBounds_toArray, List.set_cons_zero, List.set_cons_succ]))
      go_ret
      exact ⟨rfl, M.kept⟩
    · subst xs1
      have DE : Hid (decide (want = (List.replicate 32 0)) = false) := decide_eq_false xw
      have HXE := hid xe
      have HXG := hid xg
      have HT : Hid ((decide (k = k) && decide (want = want)) = true) := by show _ = _; simp
      clear xw xe xg HE HW
      go_wp2_with (first
        | ((with_reducible apply W_field (v := .slice (some ⟨gs, 0, none⟩) 1 sc)); kernel_rfl; simp only [Act.put, List.setIfInBounds_toArray, List.set_cons_zero, List.set_cons_succ])
        | ((with_reducible apply W_loadAll); rfl; exact M.r0; exact Salg.underlying22; rfl; (rw [size22]; simp [lw]); simp only [Act.put, List.setIfInBounds_toArray, List.set_cons_zero, List.set_cons_succ])
        | ((with_reducible apply W_buildV (d := 42) (v := A8 (List.replicate 32 0))); kernel_rfl; simp only [Act.put, List.setIfInBounds_toArray, List.set_cons_zero, List.set_cons_succ])
        | ((with_reducible apply W_eql8 (l := want) (l' := (List.replicate 32 0))); rfl; rfl; exact Salg.underlying22; exact Salg.underlying5; exact size5; exact guard22; exact lw; rfl; rw [DE.out]; simp only [Act.put, List.setIfInBounds_toArray, List.set_cons_zero, List.set_cons_succ]))
      refine S_region (by kernel_rfl) ?_
      refine E_stage 0 13 [0, 1, 2, 3, 4, 5, 6, 7, 8, 9, 10, 11, 12] (by kernel_rfl) M.drew ?_
      clear M
      simp only [List.filterMap_cons, List.filterMap_nil, List.getElem?_cons_zero, List.getElem?_cons_succ]
      ((with_reducible apply E_run); rfl; rfl; (intro w M; go_simp; (try go_ints); (try simp only [↓IntWalk.iteOmega]); (try with_reducible rfl)); simp only [Act.put, List.setIfInBounds_toArray, List.set_cons_zero, List.set_cons_succ])
      ((with_reducible apply E_run); rfl; rfl; (intro w M; go_simp; (try go_ints); (try simp only [↓IntWalk.iteOmega]); (try with_reducible rfl)); simp only [Act.put, List.setIfInBounds_toArray, List.set_cons_zero, List.set_cons_succ])
      ((with_reducible apply E_run); rfl; rfl; (intro w M; go_simp; (try go_ints); (try simp only [↓IntWalk.iteOmega]); (try with_reducible rfl)); simp only [Act.put, List.setIfInBounds_toArray, List.set_cons_zero, List.set_cons_succ])
      ((with_reducible apply E_run); rfl; rfl; (intro w M; go_simp; (try go_ints); (try simp only [↓IntWalk.iteOmega]); (try with_reducible rfl)); simp only [Act.put, List.setIfInBounds_toArray, List.set_cons_zero, List.set_cons_succ])
      ((with_reducible apply E_run); rfl; rfl; (intro w M; go_simp; (try go_ints); (try simp only [↓IntWalk.iteOmega]); (try with_reducible rfl)); simp only [Act.put, List.setIfInBounds_toArray, List.set_cons_zero, List.set_cons_succ])
      ((with_reducible apply E_run); rfl; rfl; (intro w M; go_simp; (try go_ints); (try simp only [↓IntWalk.iteOmega]); (try with_reducible rfl)); simp only [Act.put, List.setIfInBounds_toArray, List.set_cons_zero, List.set_cons_succ])
      ((with_reducible apply E_run (v := .agg ((k ++ want).map n8).toArray)); rfl; rfl; (intro w M; exact run_loadX (n := 64) (M.kept.row HXG.out (by simp)) rfl Salg.underlying171 rfl size171 (by omega) HXE.out); simp only [Act.put, List.setIfInBounds_toArray, List.set_cons_zero, List.set_cons_succ])
      ((with_reducible apply E_run); rfl; rfl; (intro w M; exact run_loadAll M.r4 rfl Salg.underlying22 rfl (by rw [size22]; simp [lk])); simp only [Act.put, List.setIfInBounds_toArray, List.set_cons_zero, List.set_cons_succ])
      ((with_reducible apply E_run); rfl; rfl; (intro w M; exact run_loadAll M.r0 rfl Salg.underlying22 rfl (by rw [size22]; simp [lw])); simp only [Act.put, List.setIfInBounds_toArray, List.set_cons_zero, List.set_cons_succ])
      ((with_reducible apply E_run (v := .agg ((k ++ want).map n8).toArray)); rfl; rfl; (intro w M; obtain ⟨b0, b1, b2, b3, b4, b5, b6, b7, b8, b9, b10, b11, b12, b13, b14, b15, b16, b17, b18, b19, b20, b21, b22, b23, b24, b25, b26, b27, b28, b29, b30, b31, eb⟩ := list32 lk; obtain ⟨d0, d1, d2, d3, d4, d5, d6, d7, d8, d9, d10, d11, d12, d13, d14, d15, d16, d17, d18, d19, d20, d21, d22, d23, d24, d25, d26, d27, d28, d29, d30, d31, ed⟩ := list32 lw; clear HCS HPR HWT HL1 HL2 HZ' HT DE HXE HSW M; subst eb ed; kernel_rfl); simp only [Act.put, List.setIfInBounds_toArray, List.set_cons_zero, List.set_cons_succ])
      ((with_reducible apply E_run (v := .bool true)); rfl; rfl; (intro w M; exact (run_eqlS2 (x1 := k) (x2 := want) (y1 := k) (y2 := want) (ta := 46) rfl rfl Salg.underlying171 rfl rfl rfl rfl (by decide) (by decide) stood171 Salg.underlying46 size46 Salg.underlying5 size5 guard171 lk lw lk lw).trans (by simp only [decide_true, Bool.and_self])); simp only [Act.put, List.setIfInBounds_toArray, List.set_cons_zero, List.set_cons_succ])
      ((with_reducible apply E_run); rfl; rfl; (intro w M; go_simp; (try go_ints); (try simp only [↓IntWalk.iteOmega]); (try with_reducible rfl)); simp only [Act.put, List.setIfInBounds_toArray, List.set_cons_zero, List.set_cons_succ])
      ((with_reducible apply E_run); rfl; rfl; (intro w M; go_simp; (try go_ints); (try simp only [↓IntWalk.iteOmega]); (try with_reducible rfl)); simp only [Act.put, List.setIfInBounds_toArray, List.set_cons_zero, List.set_cons_succ])
      refine E_nil ?_
      intro w10 K M
      clear K
      refine S_done ?_
      go_wp2_with fail
      go_ret
      exact ⟨rfl, M.kept⟩
  · have dk2 : ((kd : Int) == 1) = false := by rw [beq_eq_false_iff_ne]; simp at dk; omega
    go_enter Salg.func36, Salg.ntmps36
    go_wp2_with (first
      | ((with_reducible apply L_box (d := 7) M); rfl; clear M; intro t7 w1 ht7 M; simp only [Act.put, List.setIfInBounds_toArray, List.set_cons_zero, List.set_cons_succ])
      | ((with_reducible apply L_box (d := 8) M); rfl; clear M; intro t8 w1 ht8 M; simp only [Act.put, List.setIfInBounds_toArray, List.set_cons_zero, List.set_cons_succ])
      | ((with_reducible apply L_box (d := 9) M); rfl; clear M; intro t9 w1 ht9 M; simp only [Act.put, List.setIfInBounds_toArray, List.set_cons_zero, List.set_cons_succ])
      | ((with_reducible apply L_box (d := 10) M); rfl; clear M; intro t10 w1 ht10 M; simp only [Act.put, List.setIfInBounds_toArray, List.set_cons_zero, List.set_cons_succ])
      | ((with_reducible apply W_loadAll); rfl; exact M.r2; exact Salg.underlying22; rfl; (rw [size22]; simp [lx]); simp only [Act.put, List.setIfInBounds_toArray, List.set_cons_zero, List.set_cons_succ])
      | ((with_reducible apply L_allocA (d := 13) M); exact zero22; clear M; intro t13 w1 ht13 M; simp only [Act.put, List.setIfInBounds_toArray, List.set_cons_zero, List.set_cons_succ])
      | ((with_reducible apply W_storeK (b := t13) (vs := (x.map n8).toArray)); rfl; rfl; exact M.r0; exact size22; (simp [lx]); exact HO8.out _; intro w3 K hr3; replace M := Mem.callPut (L1 := []) M (Or.inr ht13) K hr3; clear K hr3; simp only [List.nil_append] at M))
    rw [← HE.out] at M
    refine S_region (by kernel_rfl) ?_
    refine E_stage 0 18 [0, 1, 2, 3, 4, 5, 6, 7, 8, 9, 10, 11, 12, 13, 14, 15, 16, 17] (by kernel_rfl) M.drew ?_
    clear M
    simp only [List.filterMap_cons, List.filterMap_nil, List.getElem?_cons_zero, List.getElem?_cons_succ]
    ((with_reducible apply E_run); rfl; rfl; (intro w M; go_simp; (try go_ints); (try simp only [↓IntWalk.iteOmega]); (try with_reducible rfl)); simp only [Act.put, List.setIfInBounds_toArray, List.set_cons_zero, List.set_cons_succ])
    ((with_reducible apply E_run); rfl; rfl; (intro w M; exact run_loadCell (M.r1) rfl (show (rcL (n64 U) (.slice (some ⟨b, 0, none⟩) 32 ocap)).toArray[1]? = some (.int .u8 0) by kernel_rfl) Salg.underlying5 rfl); simp only [Act.put, List.setIfInBounds_toArray, List.set_cons_zero, List.set_cons_succ])
    ((with_reducible apply E_run); rfl; rfl; (intro w M; go_simp; (try go_ints); (try simp only [↓IntWalk.iteOmega]); (try with_reducible rfl)); simp only [Act.put, List.setIfInBounds_toArray, List.set_cons_zero, List.set_cons_succ])
    ((with_reducible apply E_run); rfl; rfl; (intro w M; go_simp; (try go_ints); (try simp only [↓IntWalk.iteOmega]); (try with_reducible rfl)); simp only [Act.put, List.setIfInBounds_toArray, List.set_cons_zero, List.set_cons_succ])
    ((with_reducible apply E_run); rfl; rfl; (intro w M; go_simp; (try go_ints); (try simp only [↓IntWalk.iteOmega]); (try with_reducible rfl)); simp only [Act.put, List.setIfInBounds_toArray, List.set_cons_zero, List.set_cons_succ])
    ((with_reducible apply E_run); rfl; rfl; (intro w M; exact run_loadCell (M.r1) rfl (show (rcL (n64 U) (.slice (some ⟨b, 0, none⟩) 32 ocap)).toArray[3]? = some (.slice (some ⟨b, 0, none⟩) 32 ocap) by kernel_rfl) Salg.underlying40 rfl); simp only [Act.put, List.setIfInBounds_toArray, List.set_cons_zero, List.set_cons_succ])
    ((with_reducible apply E_run); rfl; rfl; (intro w M; exact run_sliceArr (l := 0) (h := 32) (m := 32) rfl Salg.underlying22 size5 (by (first | exact Or.inl ⟨rfl, rfl⟩ | exact Or.inr ⟨_, _, _, rfl, rfl, by omega⟩)) (by (first | exact Or.inl ⟨rfl, rfl⟩ | exact Or.inr ⟨_, _, _, rfl, rfl, by omega⟩)) (by (first | exact Or.inl ⟨rfl, rfl⟩ | exact Or.inr ⟨_, _, _, rfl, rfl, by omega⟩)) (by first | exact Or.inl rfl | exact Or.inr rfl) (by omega) (by omega) (by omega) (by omega)); (try simp only [Nat.zero_add, Nat.sub_zero]); simp only [Act.put, List.setIfInBounds_toArray, List.set_cons_zero, List.set_cons_succ])
    refine E_call rfl Salg.func105 (by kernel_rfl) (by kernel_rfl) (args := [.slice (some ⟨b, 0, none⟩) 32 ocap, .slice (some ⟨t13, 0, none⟩) 32 32]) rfl ?_
    intro w1 K M
    clear K
    refine (equalBytes_yes b 0 t t13 0 22 ocap 32 _ _ want 32 _ (M.kept.row HCS.out (by simp)) M.r0 HPR.out HWT.out lw HSW.out).mono ?_
    rintro e w4 ⟨rfl, hw⟩
    replace hw := hw.symm
    subst hw
    refine ⟨_, rfl, trivial, M, ?_⟩
    simp only [Act.put, List.setIfInBounds_toArray, List.set_cons_zero, List.set_cons_succ]
    ((with_reducible apply E_run); rfl; rfl; (intro w M; go_simp; (try go_ints); (try simp only [↓IntWalk.iteOmega]); (try with_reducible rfl)); simp only [Act.put, List.setIfInBounds_toArray, List.set_cons_zero, List.set_cons_succ])
    ((with_reducible apply E_run); rfl; rfl; (intro w M; go_simp; (try go_ints); (try simp only [↓IntWalk.iteOmega]); (try with_reducible rfl)); simp only [Act.put, List.setIfInBounds_toArray, List.set_cons_zero, List.set_cons_succ])
    ((with_reducible apply E_run); rfl; rfl; (intro w M; go_simp; (try go_ints); (try simp only [↓IntWalk.iteOmega]); (try with_reducible rfl)); simp only [Act.put, List.setIfInBounds_toArray, List.set_cons_zero, List.set_cons_succ])
    ((with_reducible apply E_run); rfl; rfl; (intro w M; go_simp; (try go_ints); (try simp only [↓IntWalk.iteOmega]); (try with_reducible rfl)); simp only [Act.put, List.setIfInBounds_toArray, List.set_cons_zero, List.set_cons_succ])
    refine E_call rfl Salg.func82 (by kernel_rfl) (by kernel_rfl) (args := [.int .u8 2]) rfl ?_
    intro w1 K M
    clear K
    refine (addrNo_any 2 _).mono ?_
    rintro e w5 ⟨rfl, K⟩
    replace M := M.call K
    refine ⟨_, rfl, trivial, M, ?_⟩
    clear K
    simp only [Act.put, List.setIfInBounds_toArray, List.set_cons_zero, List.set_cons_succ]
    refine E_call rfl Salg.func126 (by kernel_rfl) (by kernel_rfl) (args := [.slice (some ⟨g, 0, none⟩) 3 cap, A8 (ad 2)]) rfl ?_
    intro w1 K M
    clear K
    refine (HL2.out _ M.kept).mono ?_
    rintro e w6 ⟨rfl, K⟩
    replace M := M.call K
    refine ⟨_, rfl, trivial, M, ?_⟩
    clear K
    simp only [Act.put, List.setIfInBounds_toArray, List.set_cons_zero, List.set_cons_succ]
    ((with_reducible apply E_run (v := nilS)); rfl; rfl; (intro w M; kernel_rfl); simp only [Act.put, List.setIfInBounds_toArray, List.set_cons_zero, List.set_cons_succ])
    ((with_reducible apply E_run); rfl; rfl; (intro w M; go_simp; (try go_ints); (try simp only [↓IntWalk.iteOmega]); (try with_reducible rfl)); simp only [Act.put, List.setIfInBounds_toArray, List.set_cons_zero, List.set_cons_succ])
    ((with_reducible apply E_run); rfl; rfl; (intro w M; go_simp; (try go_ints); (try simp only [↓IntWalk.iteOmega]); (try with_reducible rfl)); simp only [Act.put, List.setIfInBounds_toArray, List.set_cons_zero, List.set_cons_succ])
    ((with_reducible apply E_run); rfl; rfl; (intro w M; go_simp; (try go_ints); (try simp only [↓IntWalk.iteOmega]); (try with_reducible rfl)); simp only [Act.put, List.setIfInBounds_toArray, List.set_cons_zero, List.set_cons_succ])
    refine E_nil ?_
    intro w7 K M
    clear K
    refine S_done ?_
    go_wp2_with fail
    refine (addrNo_any 1 _).mono ?_
    rintro e w8 ⟨rfl, K⟩
    replace M := M.call K
    clear K
    go_wp2_with fail
    refine (HL1.out _ M.kept).mono ?_
    rintro e w9 ⟨rfl, K⟩
    replace M := M.call K
    clear K
    rcases HZ'.out with ⟨_, xs1, xw⟩ | ⟨xw, gs, sc, scur, xs1, xg, xz, xe⟩
    · subst xs1
      have DE : Hid (decide (want = (List.replicate 32 0)) = true) := decide_eq_true xw
      have DX : Hid (want.length = 32) := lw
      clear xw HE HW
      go_wp2_with (first
        | ((with_reducible apply W_field (v := nilS)); kernel_rfl; simp only [Act.put, List.setIfInBounds_toArray, List.set_cons_zero, List.set_cons_succ])
        | ((with_reducible apply W_loadAll); rfl; exact M.r0; exact Salg.underlying22; rfl; (rw [size22]; simp [lw]); simp only [Act.put, List.setIfInBounds_toArray, List.set_cons_zero, List.set_cons_succ])
        | ((with_reducible apply W_buildV (d := 42) (v := A8 (List.replicate 32 0))); kernel_rfl; simp only [Act.put, List.setIfInBounds_toArray, List.set_cons_zero, List.set_cons_succ])
        | ((with_reducible apply W_eql8 (l := want) (l' := (List.replicate 32 0))); rfl; rfl; exact Salg.underlying22; exact Salg.underlying5; exact size5; exact guard22; exact lw; rfl; rw [DE.out]; simp only [Act.put, List.setIfInBounds_toArray, List.set_cons_zero, List.set_cons_succ]))
      go_ret
      exact ⟨rfl, M.kept⟩
    · subst xs1
      have DE : Hid (decide (want = (List.replicate 32 0)) = false) := decide_eq_false xw
      have HXE := hid xe
      have HXG := hid xg
      have HT : Hid ((decide (k = k) && decide (want = want)) = true) := by show _ = _; simp
      clear xw xe xg HE HW
      go_wp2_with (first
        | ((with_reducible apply W_field (v := .slice (some ⟨gs, 0, none⟩) 1 sc)); kernel_rfl; simp only [Act.put, List.setIfInBounds_toArray, List.set_cons_zero, List.set_cons_succ])
        | ((with_reducible apply W_loadAll); rfl; exact M.r0; exact Salg.underlying22; rfl; (rw [size22]; simp [lw]); simp only [Act.put, List.setIfInBounds_toArray, List.set_cons_zero, List.set_cons_succ])
        | ((with_reducible apply W_buildV (d := 42) (v := A8 (List.replicate 32 0))); kernel_rfl; simp only [Act.put, List.setIfInBounds_toArray, List.set_cons_zero, List.set_cons_succ])
        | ((with_reducible apply W_eql8 (l := want) (l' := (List.replicate 32 0))); rfl; rfl; exact Salg.underlying22; exact Salg.underlying5; exact size5; exact guard22; exact lw; rfl; rw [DE.out]; simp only [Act.put, List.setIfInBounds_toArray, List.set_cons_zero, List.set_cons_succ]))
      refine S_region (by kernel_rfl) ?_
      refine E_stage 0 13 [0, 1, 2, 3, 4, 5, 6, 7, 8, 9, 10, 11, 12] (by kernel_rfl) M.drew ?_
      clear M
      simp only [List.filterMap_cons, List.filterMap_nil, List.getElem?_cons_zero, List.getElem?_cons_succ]
      ((with_reducible apply E_run); rfl; rfl; (intro w M; go_simp; (try go_ints); (try simp only [↓IntWalk.iteOmega]); (try with_reducible rfl)); simp only [Act.put, List.setIfInBounds_toArray, List.set_cons_zero, List.set_cons_succ])
      ((with_reducible apply E_run); rfl; rfl; (intro w M; go_simp; (try go_ints); (try simp only [↓IntWalk.iteOmega]); (try with_reducible rfl)); simp only [Act.put, List.setIfInBounds_toArray, List.set_cons_zero, List.set_cons_succ])
      ((with_reducible apply E_run); rfl; rfl; (intro w M; go_simp; (try go_ints); (try simp only [↓IntWalk.iteOmega]); (try with_reducible rfl)); simp only [Act.put, List.setIfInBounds_toArray, List.set_cons_zero, List.set_cons_succ])
      ((with_reducible apply E_run); rfl; rfl; (intro w M; go_simp; (try go_ints); (try simp only [↓IntWalk.iteOmega]); (try with_reducible rfl)); simp only [Act.put, List.setIfInBounds_toArray, List.set_cons_zero, List.set_cons_succ])
      ((with_reducible apply E_run); rfl; rfl; (intro w M; go_simp; (try go_ints); (try simp only [↓IntWalk.iteOmega]); (try with_reducible rfl)); simp only [Act.put, List.setIfInBounds_toArray, List.set_cons_zero, List.set_cons_succ])
      ((with_reducible apply E_run); rfl; rfl; (intro w M; go_simp; (try go_ints); (try simp only [↓IntWalk.iteOmega]); (try with_reducible rfl)); simp only [Act.put, List.setIfInBounds_toArray, List.set_cons_zero, List.set_cons_succ])
      ((with_reducible apply E_run (v := .agg ((k ++ want).map n8).toArray)); rfl; rfl; (intro w M; exact run_loadX (n := 64) (M.kept.row HXG.out (by simp)) rfl Salg.underlying171 rfl size171 (by omega) HXE.out); simp only [Act.put, List.setIfInBounds_toArray, List.set_cons_zero, List.set_cons_succ])
      ((with_reducible apply E_run); rfl; rfl; (intro w M; exact run_loadAll M.r4 rfl Salg.underlying22 rfl (by rw [size22]; simp [lk])); simp only [Act.put, List.setIfInBounds_toArray, List.set_cons_zero, List.set_cons_succ])
      ((with_reducible apply E_run); rfl; rfl; (intro w M; exact run_loadAll M.r0 rfl Salg.underlying22 rfl (by rw [size22]; simp [lw])); simp only [Act.put, List.setIfInBounds_toArray, List.set_cons_zero, List.set_cons_succ])
      ((with_reducible apply E_run (v := .agg ((k ++ want).map n8).toArray)); rfl; rfl; (intro w M; obtain ⟨b0, b1, b2, b3, b4, b5, b6, b7, b8, b9, b10, b11, b12, b13, b14, b15, b16, b17, b18, b19, b20, b21, b22, b23, b24, b25, b26, b27, b28, b29, b30, b31, eb⟩ := list32 lk; obtain ⟨d0, d1, d2, d3, d4, d5, d6, d7, d8, d9, d10, d11, d12, d13, d14, d15, d16, d17, d18, d19, d20, d21, d22, d23, d24, d25, d26, d27, d28, d29, d30, d31, ed⟩ := list32 lw; clear HCS HPR HWT HL1 HL2 HZ' HT DE HXE HSW M; subst eb ed; kernel_rfl); simp only [Act.put, List.setIfInBounds_toArray, List.set_cons_zero, List.set_cons_succ])
      ((with_reducible apply E_run (v := .bool true)); rfl; rfl; (intro w M; exact (run_eqlS2 (x1 := k) (x2 := want) (y1 := k) (y2 := want) (ta := 46) rfl rfl Salg.underlying171 rfl rfl rfl rfl (by decide) (by decide) stood171 Salg.underlying46 size46 Salg.underlying5 size5 guard171 lk lw lk lw).trans (by simp only [decide_true, Bool.and_self])); simp only [Act.put, List.setIfInBounds_toArray, List.set_cons_zero, List.set_cons_succ])
      ((with_reducible apply E_run); rfl; rfl; (intro w M; go_simp; (try go_ints); (try simp only [↓IntWalk.iteOmega]); (try with_reducible rfl)); simp only [Act.put, List.setIfInBounds_toArray, List.set_cons_zero, List.set_cons_succ])
      ((with_reducible apply E_run); rfl; rfl; (intro w M; go_simp; (try go_ints); (try simp only [↓IntWalk.iteOmega]); (try with_reducible rfl)); simp only [Act.put, List.setIfInBounds_toArray, List.set_cons_zero, List.set_cons_succ])
      refine E_nil ?_
      intro w10 K M
      clear K
      refine S_done ?_
      go_wp2_with fail
      go_ret
      exact ⟨rfl, M.kept⟩
end Go.Proofs.YgcsalGreat

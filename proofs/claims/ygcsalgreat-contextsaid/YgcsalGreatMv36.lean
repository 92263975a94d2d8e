/-
  The walk of law.movesProgram.
-/
import Derived.Test.YgcsalGreatMv35
set_option linter.unusedSimpArgs false
set_option linter.unusedVariables false
namespace Go.Own
section
variable {P : Program} {ops : Array Oper} {Q : Exit → Act → World → Prop} {rest : List Oper} {a : Act} {w : World}
theorem run_indexRow {dst : Option Tmp} {x y : Operand} {t elem ty' : TypeId} {len n m k : Nat} {i : Int} {ki : IntKind} {e2 : TypeId} {pos : String} {after : Array Edge} {g : Option (Nat × Bool)} {cs vs : Array Value}
    (hx : a.eval x = .agg cs) (hy : a.eval y = .int ki i) (hin : i = (n : Nat)) (hu : P.underlying t = some (.array len elem)) (he : P.underlying elem = some (.array k e2)) (hs : (P.info? elem).map (·.size) = some m)
    (hn : n < len) (hv : cs.extract (n * m) (n * m + m) = vs) :
    (execOp a.eval { dst := dst, op := .index t x y, type := ty', pos := pos, after := after, guard := g }).run P w = .ok (.value (.agg vs)) w := by
  subst hin
  have hsz : (sizeOf elem).run P w = .ok m w := by
    cases hq : P.info? elem with
    | none => simp [hq] at hs
    | some i => simp [sizeOf, typeInfo, hq] at hs ⊢; exact hs
  have hagg : (isAgg elem).run P w = .ok true w := by
    unfold isAgg
    rw [Sem.run_bind, run_underlying he w]
    rfl
  have hp : (part elem cs (n * m)).run P w = .ok (.agg vs) w := by simp [part, Sem.run_bind, hagg, hsz, hv]
  have h1 : 0 ≤ (n : Int) ∧ (n : Int) < (len : Int) := by omega
  simp [execOp, hx, hy, Instr.index, asIntOf, Sem.run_bind, run_underlying hu, h1, hsz, hp, hn]
theorem W_indexRow {dst : Tmp} {x y : Operand} {t elem ty' : TypeId} {len n m k : Nat} {i : Int} {ki : IntKind} {e2 : TypeId} {pos : String} {after : Array Edge} {cs vs : Array Value}
    (hx : a.eval x = .agg cs) (hy : a.eval y = .int ki i) (hin : i = (n : Nat)) (hu : P.underlying t = some (.array len elem)) (he : P.underlying elem = some (.array k e2)) (hs : (P.info? elem).map (·.size) = some m)
    (hn : n < len) (hv : cs.extract (n * m) (n * m + m) = vs) (k : wpList P ops Q rest (a.put (some dst) (.agg vs)) w) :
    wpList P ops Q ({ dst := some dst, op := .index t x y, type := ty', pos := pos, after := after, guard := none } :: rest) a w := L_run rfl (run_indexRow hx hy hin hu he hs hn hv) k
end
def wsI (fl : List Nat) (i : Nat) : List Nat := (fl.drop (i * 8)).take 8
theorem wsI_len {fl : List Nat} {i : Nat} (h : fl.length = 136) (hi : i < 17) : (wsI fl i).length = 8 := by simp [wsI, h]; omega
theorem wsI_ext {fl : List Nat} {i : Nat} (h : fl.length = 136) (hi : i < 17) : (fl.map n8).toArray.extract (i * 8) (i * 8 + 8) = ((wsI fl i).map n8).toArray := by
  apply Array.ext'
  simp [wsI, List.extract_eq_take_drop, List.map_take, List.map_drop]
theorem wsI_small {fl : List Nat} (h : Small fl) (i : Nat) : Small (wsI fl i) := fun x hx => h x (List.mem_of_mem_drop (List.mem_of_mem_take hx))
def pushB (fl : List Nat) (i : Nat) : List Nat := (List.range i).flatMap fun j => 103 :: wsI fl j
theorem pushB_succ (fl : List Nat) (i : Nat) : pushB fl (i + 1) = pushB fl i ++ [103] ++ wsI fl i := by simp [pushB, List.range_succ]
theorem own_type {w : World} {base e s n b : Nat} {v : Value} {xs : List Value} {cs : Array Value} {t : TypeId} {fr : Nat × Nat} (h : w.ownsRow base e s v n xs) (hr : w.heap[b]? = some (.cells cs t fr)) (ht : t ≠ e) : v.ownBlock ≠ some b := by
  intro hb
  rcases h.2 with ⟨rfl, h1⟩ | ⟨g, cap, cur, rfl, h2, h3, h4⟩
  · cases hb
  · cases hb
    rw [hr] at h3
    cases h3
    exact ht rfl
theorem apart3 {b c d : Nat} {v : Value} {o o' o'' : Obj} (h : v.ownBlock ≠ some b) (h' : v.ownBlock ≠ some c) (h'' : v.ownBlock ≠ some d) : ∀ p ∈ [(b, o), (c, o'), (d, o'')], v.ownBlock ≠ some p.1 := by
  intro p hp
  simp at hp
  rcases hp with rfl | rfl | rfl
  · exact h
  · exact h'
  · exact h''
def tailB (kind n cut : Nat) (im : List Nat) : List Nat := if kind % 4 = 0 then [128 + n % 16] else if kind % 4 = 1 then [144 + n % 16] else if kind % 4 = 2 then [80] else (95 + n % 33) :: im.take (min (n % 33) cut)
end Go.Own
namespace Go.Proofs.YgcsalGreat
open Go.RowKit Go.Own
theorem size34 : (Salg.prog.info? 34).map (·.size) = some 136 := by kernel_rfl

set_option maxHeartbeats 4000000 in
set_option maxRecDepth 100000 in
theorem movesProgram_2 (kind n cut : Nat) (fl im : List Nat) (w : World) (hk : kind % 4 = 2) (hk2 : kind < 256) (hn : n < 256) (hcu : cut < 256) (hfl : fl.length = 136) (him : im.length = 32) :
    Calls Salg.prog 15 #[n8 kind, n8 n, n8 cut, .agg (fl.map n8).toArray, A8 im] w fun e w' => ∃ v, e = .returned v ∧ RowV w' 5 v ((pushB fl 17 ++ tailB kind n cut im).map n8) ∧ Kept [] w w' := by
  have M := Mem.start w []
  have HFL := hid hfl
  have HIM := hid him
  have HTB : Hid (tailB kind n cut im = [80]) := by show _ = _; simp [tailB, hk]
  have dk0 : decide ((kind : Int) % 4 = 0) = false := by simp; omega
  have ek0 : decide (kind % 4 = 0) = false := by simp; omega
  have dk1 : decide ((kind : Int) % 4 = 1) = false := by simp; omega
  have ek1 : decide (kind % 4 = 1) = false := by simp; omega
  have dk2 : decide ((kind : Int) % 4 = 2) = true := by simp; omega
  have ek2 : decide (kind % 4 = 2) = true := by simp; omega
  clear hfl him
  go_enter Salg.func15, Salg.ntmps15
  go_wp2_with (first
    | ((with_reducible apply L_box (d := 8) M); rfl; clear M; intro t8 w1 ht8 M; simp only [Act.put, List.setIfInBounds_toArray, List.set_cons_zero, List.set_cons_succ])
    | ((with_reducible apply L_box (d := 9) M); rfl; clear M; intro t9 w2 ht9 M; simp only [Act.put, List.setIfInBounds_toArray, List.set_cons_zero, List.set_cons_succ])
    | ((with_reducible apply W_loadAll); rfl; exact M.r1; exact Salg.underlying34; rfl; (rw [size34]; simp [HFL.out]); simp only [Act.put, List.setIfInBounds_toArray, List.set_cons_zero, List.set_cons_succ]))
  obtain ⟨B, hB⟩ : ∃ B : Nat, B = w2.heap.size := ⟨_, rfl⟩
  have hwB : w.heap.size ≤ B := by rw [hB]; exact M.kept.size
  have hBle := Nat.le_of_eq hB
  clear hB
  go_loopw [11, 17] (fun cv iv wr => ∃ i : Nat, i ≤ 17 ∧ iv = .int .i64 i ∧ Mem w [] [(t9, .cells (im.map n8).toArray 22 (0, 0)), (t8, .cells (fl.map n8).toArray 34 (0, 0))] wr ∧ B ≤ wr.heap.size ∧ wr.ownsRow B 5 1 cv (9 * i) ((pushB fl i).map n8)) (fun _ iv _ => (17 - intOf iv).toNat)
  case atStart => exact ⟨0, by omega, rfl, M, hBle, own_nil _ _ _ _⟩
  case round =>
    clear M
    obtain ⟨i, hi, rfl, M, hBw, xO⟩ := hrel
    have HO := hid xO
    clear xO
    rcases Nat.lt_or_ge i 17 with hlt | hge
    · have HEX := hid (wsI_ext HFL.out hlt)
      have HWL := hid (wsI_len HFL.out hlt)
      have HSU := hid (pushB_succ fl i)
      generalize wsI fl i = wi at *
      have HO1 : Hid (∀ u ∈ (wi.map n8).toArray.toList, u.oneCell' = true) := oneT (n8_one wi)
      go_wp2_with (first
        | ((with_reducible apply W_indexRow (n := i) (m := 8) (vs := (wi.map n8).toArray)); rfl; rfl; rfl; exact Salg.underlying34; exact Salg.underlying33; exact size33; exact hlt; exact HEX.out; simp only [Act.put, List.setIfInBounds_toArray, List.set_cons_zero, List.set_cons_succ])
        | ((with_reducible apply L_allocN (d := 13) M); exact zero33; clear M; intro t13 w3 ht13 ht13b KB M; replace HO := hid (own_kept HO.out KB); replace hBw := Nat.le_trans hBw KB.size; clear KB ht13b; simp only [Act.put, List.setIfInBounds_toArray, List.set_cons_zero, List.set_cons_succ])
        | ((with_reducible apply W_storeK (b := t13) (vs := (wi.map n8).toArray)); rfl; rfl; exact M.r0; exact size33; (simp [HWL.out]); exact HO1.out; intro w4 K hr3; replace HO := hid (own_keptC HO.out K M.r0 (by decide)); replace hBw := Nat.le_trans hBw K.size; replace M := Mem.callPut (L1 := []) M (Or.inr ht13) K hr3; clear K hr3; simp only [List.nil_append] at M)
        | ((with_reducible apply W_buildIt (u := .int .u8 103) (vs := #[.int .u8 103]) (s := 1) M); rfl; rfl; exact Salg.underlying40; exact size5; exact zero5s; rfl; decide; decide; clear M; intro bn w6 hbn hbn2 KB M; replace HO := hid (own_kept HO.out KB); replace hBw := Nat.le_trans hBw KB.size; clear KB hbn2; simp only [Act.put, List.setIfInBounds_toArray, List.set_cons_zero, List.set_cons_succ])
        | ((with_reducible apply W_appendIt (base := B) (n := 9 * i) (m := 1) (s := 1) (bn := bn) (so := 0) (xs := (pushB fl i).map n8) (news := [n8 103]) (cs := #[n8 103]) M.tail); exact info5; exact Salg.underlying40; rfl; decide; decide; rfl; rfl; exact HO.out; omega; exact M.r0; rfl; exact one_news _; exact one_one rfl; exact hwB; exact hBw; exact apart3 (own_type HO.out M.r1 (by decide)) (own_type HO.out M.r2 (by decide)) (own_type HO.out M.r3 (by decide)); clear M; intro cv2 w7 M xO hb3 KA; replace HO := hid xO; replace hBw := hb3; clear xO hb3 KA; simp only [Act.put, List.setIfInBounds_toArray, List.set_cons_zero, List.set_cons_succ])
        | ((with_reducible apply W_sliceArr (l := 0) (h := 8) (m := 8)); rfl; exact Salg.underlying33; exact size5; (first | exact Or.inl ⟨rfl, rfl⟩ | exact Or.inr ⟨_, _, _, rfl, rfl, by omega⟩); (first | exact Or.inl ⟨rfl, rfl⟩ | exact Or.inr ⟨_, _, _, rfl, rfl, by omega⟩); (first | exact Or.inl ⟨rfl, rfl⟩ | exact Or.inr ⟨_, _, _, rfl, rfl, by omega⟩); (first | exact Or.inl rfl | exact Or.inr rfl); omega; omega; omega; omega; (try simp only [Nat.zero_add, Nat.sub_zero]); simp only [Act.put, List.setIfInBounds_toArray, List.set_cons_zero, List.set_cons_succ])
        | ((with_reducible apply W_appendIt (base := B) (n := 9 * i + 1) (m := 8) (s := 1) (bn := t13) (so := 0) (xs := (pushB fl i).map n8 ++ [n8 103]) (news := wi.map n8) (cs := (wi.map n8).toArray) M); exact info5; exact Salg.underlying40; rfl; decide; decide; rfl; rfl; exact HO.out; omega; exact M.r0; (simp [HWL.out]); exact cells_news _; exact n8_one _; exact hwB; exact hBw; exact apart3 (own_type HO.out M.r0 (by decide)) (own_type HO.out M.r1 (by decide)) (own_type HO.out M.r2 (by decide)); clear M; intro cv2 w7 M xO hb3 KA; replace HO := hid xO; replace hBw := hb3; clear xO hb3 KA; simp only [Act.put, List.setIfInBounds_toArray, List.set_cons_zero, List.set_cons_succ]))
      go_roundw
      case rel =>
        refine ⟨i + 1, by omega, by go_num, M.tail, hBw, ?_⟩
        have hO := HO.out
        rw [HSU.out, show 9 * (i + 1) = 9 * i + 1 + 8 by omega]
        simpa using hO
      case measure => simp [intOf]; omega
    · obtain rfl : i = 17 := by omega
      clear hge hi
      go_wp2_with (first
        | ((with_reducible apply W_buildIt (u := .int .u8 80) (vs := #[.int .u8 80]) (s := 1) M); rfl; rfl; exact Salg.underlying40; exact size5; exact zero5s; rfl; decide; decide; clear M; intro bn w6 hbn hbn2 KB M; replace HO := hid (own_kept HO.out KB); replace hBw := Nat.le_trans hBw KB.size; clear KB hbn2; simp only [Act.put, List.setIfInBounds_toArray, List.set_cons_zero, List.set_cons_succ])
        | ((with_reducible apply W_appendIt (base := B) (n := 9 * 17) (m := 1) (s := 1) (bn := bn) (so := 0) (xs := (pushB fl 17).map n8) (news := [n8 80]) (cs := #[n8 80]) M.tail); exact info5; exact Salg.underlying40; rfl; decide; decide; rfl; rfl; exact HO.out; omega; exact M.r0; rfl; exact one_news _; exact one_one rfl; exact hwB; exact hBw; exact apart2 (own_type HO.out M.r1 (by decide)) (own_type HO.out M.r2 (by decide)); clear M; intro cv2 w7 M xO hb3 KA; replace HO := hid xO; replace hBw := hb3; clear xO hb3 KA; simp only [Act.put, List.setIfInBounds_toArray, List.set_cons_zero, List.set_cons_succ])
)
      go_ret
      refine ⟨_, rfl, ?_, M.kept⟩
      have hR := RowV.own HO.out
      rw [HTB.out]
      simpa using hR

set_option maxHeartbeats 4000000 in
set_option maxRecDepth 100000 in
theorem movesProgram_0 (kind n cut : Nat) (fl im : List Nat) (w : World) (hk : kind % 4 = 0) (hk2 : kind < 256) (hn : n < 256) (hcu : cut < 256) (hfl : fl.length = 136) (him : im.length = 32) :
    Calls Salg.prog 15 #[n8 kind, n8 n, n8 cut, .agg (fl.map n8).toArray, A8 im] w fun e w' => ∃ v, e = .returned v ∧ RowV w' 5 v ((pushB fl 17 ++ tailB kind n cut im).map n8) ∧ Kept [] w w' := by
  have M := Mem.start w []
  have HFL := hid hfl
  have HIM := hid him
  have HTB : Hid (tailB kind n cut im = [128 + n % 16]) := by show _ = _; simp [tailB, hk]
  have dk0 : decide ((kind : Int) % 4 = 0) = true := by simp; omega
  have ek0 : decide (kind % 4 = 0) = true := by simp; omega
  have dk1 : decide ((kind : Int) % 4 = 1) = false := by simp; omega
  have ek1 : decide (kind % 4 = 1) = false := by simp; omega
  have dk2 : decide ((kind : Int) % 4 = 2) = false := by simp; omega
  have ek2 : decide (kind % 4 = 2) = false := by simp; omega
  clear hfl him
  go_enter Salg.func15, Salg.ntmps15
  go_wp2_with (first
    | ((with_reducible apply L_box (d := 8) M); rfl; clear M; intro t8 w1 ht8 M; simp only [Act.put, List.setIfInBounds_toArray, List.set_cons_zero, List.set_cons_succ])
    | ((with_reducible apply L_box (d := 9) M); rfl; clear M; intro t9 w2 ht9 M; simp only [Act.put, List.setIfInBounds_toArray, List.set_cons_zero, List.set_cons_succ])
    | ((with_reducible apply W_loadAll); rfl; exact M.r1; exact Salg.underlying34; rfl; (rw [size34]; simp [HFL.out]); simp only [Act.put, List.setIfInBounds_toArray, List.set_cons_zero, List.set_cons_succ]))
  obtain ⟨B, hB⟩ : ∃ B : Nat, B = w2.heap.size := ⟨_, rfl⟩
  have hwB : w.heap.size ≤ B := by rw [hB]; exact M.kept.size
  have hBle := Nat.le_of_eq hB
  clear hB
  go_loopw [11, 17] (fun cv iv wr => ∃ i : Nat, i ≤ 17 ∧ iv = .int .i64 i ∧ Mem w [] [(t9, .cells (im.map n8).toArray 22 (0, 0)), (t8, .cells (fl.map n8).toArray 34 (0, 0))] wr ∧ B ≤ wr.heap.size ∧ wr.ownsRow B 5 1 cv (9 * i) ((pushB fl i).map n8)) (fun _ iv _ => (17 - intOf iv).toNat)
  case atStart => exact ⟨0, by omega, rfl, M, hBle, own_nil _ _ _ _⟩
  case round =>
    clear M
    obtain ⟨i, hi, rfl, M, hBw, xO⟩ := hrel
    have HO := hid xO
    clear xO
    rcases Nat.lt_or_ge i 17 with hlt | hge
    · have HEX := hid (wsI_ext HFL.out hlt)
      have HWL := hid (wsI_len HFL.out hlt)
      have HSU := hid (pushB_succ fl i)
      generalize wsI fl i = wi at *
      have HO1 : Hid (∀ u ∈ (wi.map n8).toArray.toList, u.oneCell' = true) := oneT (n8_one wi)
      go_wp2_with (first
        | ((with_reducible apply W_indexRow (n := i) (m := 8) (vs := (wi.map n8).toArray)); rfl; rfl; rfl; exact Salg.underlying34; exact Salg.underlying33; exact size33; exact hlt; exact HEX.out; simp only [Act.put, List.setIfInBounds_toArray, List.set_cons_zero, List.set_cons_succ])
        | ((with_reducible apply L_allocN (d := 13) M); exact zero33; clear M; intro t13 w3 ht13 ht13b KB M; replace HO := hid (own_kept HO.out KB); replace hBw := Nat.le_trans hBw KB.size; clear KB ht13b; simp only [Act.put, List.setIfInBounds_toArray, List.set_cons_zero, List.set_cons_succ])
        | ((with_reducible apply W_storeK (b := t13) (vs := (wi.map n8).toArray)); rfl; rfl; exact M.r0; exact size33; (simp [HWL.out]); exact HO1.out; intro w4 K hr3; replace HO := hid (own_keptC HO.out K M.r0 (by decide)); replace hBw := Nat.le_trans hBw K.size; replace M := Mem.callPut (L1 := []) M (Or.inr ht13) K hr3; clear K hr3; simp only [List.nil_append] at M)
        | ((with_reducible apply W_buildIt (u := .int .u8 103) (vs := #[.int .u8 103]) (s := 1) M); rfl; rfl; exact Salg.underlying40; exact size5; exact zero5s; rfl; decide; decide; clear M; intro bn w6 hbn hbn2 KB M; replace HO := hid (own_kept HO.out KB); replace hBw := Nat.le_trans hBw KB.size; clear KB hbn2; simp only [Act.put, List.setIfInBounds_toArray, List.set_cons_zero, List.set_cons_succ])
        | ((with_reducible apply W_appendIt (base := B) (n := 9 * i) (m := 1) (s := 1) (bn := bn) (so := 0) (xs := (pushB fl i).map n8) (news := [n8 103]) (cs := #[n8 103]) M.tail); exact info5; exact Salg.underlying40; rfl; decide; decide; rfl; rfl; exact HO.out; omega; exact M.r0; rfl; exact one_news _; exact one_one rfl; exact hwB; exact hBw; exact apart3 (own_type HO.out M.r1 (by decide)) (own_type HO.out M.r2 (by decide)) (own_type HO.out M.r3 (by decide)); clear M; intro cv2 w7 M xO hb3 KA; replace HO := hid xO; replace hBw := hb3; clear xO hb3 KA; simp only [Act.put, List.setIfInBounds_toArray, List.set_cons_zero, List.set_cons_succ])
        | ((with_reducible apply W_sliceArr (l := 0) (h := 8) (m := 8)); rfl; exact Salg.underlying33; exact size5; (first | exact Or.inl ⟨rfl, rfl⟩ | exact Or.inr ⟨_, _, _, rfl, rfl, by omega⟩); (first | exact Or.inl ⟨rfl, rfl⟩ | exact Or.inr ⟨_, _, _, rfl, rfl, by omega⟩); (first | exact Or.inl ⟨rfl, rfl⟩ | exact Or.inr ⟨_, _, _, rfl, rfl, by omega⟩); (first | exact Or.inl rfl | exact Or.inr rfl); omega; omega; omega; omega; (try simp only [Nat.zero_add, Nat.sub_zero]); simp only [Act.put, List.setIfInBounds_toArray, List.set_cons_zero, List.set_cons_succ])
        | ((with_reducible apply W_appendIt (base := B) (n := 9 * i + 1) (m := 8) (s := 1) (bn := t13) (so := 0) (xs := (pushB fl i).map n8 ++ [n8 103]) (news := wi.map n8) (cs := (wi.map n8).toArray) M); exact info5; exact Salg.underlying40; rfl; decide; decide; rfl; rfl; exact HO.out; omega; exact M.r0; (simp [HWL.out]); exact cells_news _; exact n8_one _; exact hwB; exact hBw; exact apart3 (own_type HO.out M.r0 (by decide)) (own_type HO.out M.r1 (by decide)) (own_type HO.out M.r2 (by decide)); clear M; intro cv2 w7 M xO hb3 KA; replace HO := hid xO; replace hBw := hb3; clear xO hb3 KA; simp only [Act.put, List.setIfInBounds_toArray, List.set_cons_zero, List.set_cons_succ]))
      go_roundw
      case rel =>
        refine ⟨i + 1, by omega, by go_num, M.tail, hBw, ?_⟩
        have hO := HO.out
        rw [HSU.out, show 9 * (i + 1) = 9 * i + 1 + 8 by omega]
        simpa using hO
      case measure => simp [intOf]; omega
    · obtain rfl : i = 17 := by omega
      clear hge hi
      go_wp2_with (first
        | ((with_reducible apply W_buildIt (u := .int .u8 ((128 + n % 16 : Nat) : Int)) (vs := #[.int .u8 ((128 + n % 16 : Nat) : Int)]) (s := 1) M); rfl; rfl; exact Salg.underlying40; exact size5; exact zero5s; rfl; decide; decide; clear M; intro bn w6 hbn hbn2 KB M; replace HO := hid (own_kept HO.out KB); replace hBw := Nat.le_trans hBw KB.size; clear KB hbn2; simp only [Act.put, List.setIfInBounds_toArray, List.set_cons_zero, List.set_cons_succ])
        | ((with_reducible apply W_appendIt (base := B) (n := 9 * 17) (m := 1) (s := 1) (bn := bn) (so := 0) (xs := (pushB fl 17).map n8) (news := [n8 (128 + n % 16)]) (cs := #[n8 (128 + n % 16)]) M.tail); exact info5; exact Salg.underlying40; rfl; decide; decide; rfl; rfl; exact HO.out; omega; exact M.r0; rfl; exact one_news _; exact one_one rfl; exact hwB; exact hBw; exact apart2 (own_type HO.out M.r1 (by decide)) (own_type HO.out M.r2 (by decide)); clear M; intro cv2 w7 M xO hb3 KA; replace HO := hid xO; replace hBw := hb3; clear xO hb3 KA; simp only [Act.put, List.setIfInBounds_toArray, List.set_cons_zero, List.set_cons_succ])
)
      go_ret
      refine ⟨_, rfl, ?_, M.kept⟩
      have hR := RowV.own HO.out
      rw [HTB.out]
      simpa using hR

set_option maxHeartbeats 4000000 in
set_option maxRecDepth 100000 in
theorem movesProgram_1 (kind n cut : Nat) (fl im : List Nat) (w : World) (hk : kind % 4 = 1) (hk2 : kind < 256) (hn : n < 256) (hcu : cut < 256) (hfl : fl.length = 136) (him : im.length = 32) :
    Calls Salg.prog 15 #[n8 kind, n8 n, n8 cut, .agg (fl.map n8).toArray, A8 im] w fun e w' => ∃ v, e = .returned v ∧ RowV w' 5 v ((pushB fl 17 ++ tailB kind n cut im).map n8) ∧ Kept [] w w' := by
  have M := Mem.start w []
  have HFL := hid hfl
  have HIM := hid him
  have HTB : Hid (tailB kind n cut im = [144 + n % 16]) := by show _ = _; simp [tailB, hk]
  have dk0 : decide ((kind : Int) % 4 = 0) = false := by simp; omega
  have ek0 : decide (kind % 4 = 0) = false := by simp; omega
  have dk1 : decide ((kind : Int) % 4 = 1) = true := by simp; omega
  have ek1 : decide (kind % 4 = 1) = true := by simp; omega
  have dk2 : decide ((kind : Int) % 4 = 2) = false := by simp; omega
  have ek2 : decide (kind % 4 = 2) = false := by simp; omega
  clear hfl him
  go_enter Salg.func15, Salg.ntmps15
  go_wp2_with (first
    | ((with_reducible apply L_box (d := 8) M); rfl; clear M; intro t8 w1 ht8 M; simp only [Act.put, List.setIfInBounds_toArray, List.set_cons_zero, List.set_cons_succ])
    | ((with_reducible apply L_box (d := 9) M); rfl; clear M; intro t9 w2 ht9 M; simp only [Act.put, List.setIfInBounds_toArray, List.set_cons_zero, List.set_cons_succ])
    | ((with_reducible apply W_loadAll); rfl; exact M.r1; exact Salg.underlying34; rfl; (rw [size34]; simp [HFL.out]); simp only [Act.put, List.setIfInBounds_toArray, List.set_cons_zero, List.set_cons_succ]))
  obtain ⟨B, hB⟩ : ∃ B : Nat, B = w2.heap.size := ⟨_, rfl⟩
  have hwB : w.heap.size ≤ B := by rw [hB]; exact M.kept.size
  have hBle := Nat.le_of_eq hB
  clear hB
  go_loopw [11, 17] (fun cv iv wr => ∃ i : Nat, i ≤ 17 ∧ iv = .int .i64 i ∧ Mem w [] [(t9, .cells (im.map n8).toArray 22 (0, 0)), (t8, .cells (fl.map n8).toArray 34 (0, 0))] wr ∧ B ≤ wr.heap.size ∧ wr.ownsRow B 5 1 cv (9 * i) ((pushB fl i).map n8)) (fun _ iv _ => (17 - intOf iv).toNat)
  case atStart => exact ⟨0, by omega, rfl, M, hBle, own_nil _ _ _ _⟩
  case round =>
    clear M
    obtain ⟨i, hi, rfl, M, hBw, xO⟩ := hrel
    have HO := hid xO
    clear xO
    rcases Nat.lt_or_ge i 17 with hlt | hge
    · have HEX := hid (wsI_ext HFL.out hlt)
      have HWL := hid (wsI_len HFL.out hlt)
      have HSU := hid (pushB_succ fl i)
      generalize wsI fl i = wi at *
      have HO1 : Hid (∀ u ∈ (wi.map n8).toArray.toList, u.oneCell' = true) := oneT (n8_one wi)
      go_wp2_with (first
        | ((with_reducible apply W_indexRow (n := i) (m := 8) (vs := (wi.map n8).toArray)); rfl; rfl; rfl; exact Salg.underlying34; exact Salg.underlying33; exact size33; exact hlt; exact HEX.out; simp only [Act.put, List.setIfInBounds_toArray, List.set_cons_zero, List.set_cons_succ])
        | ((with_reducible apply L_allocN (d := 13) M); exact zero33; clear M; intro t13 w3 ht13 ht13b KB M; replace HO := hid (own_kept HO.out KB); replace hBw := Nat.le_trans hBw KB.size; clear KB ht13b; simp only [Act.put, List.setIfInBounds_toArray, List.set_cons_zero, List.set_cons_succ])
        | ((with_reducible apply W_storeK (b := t13) (vs := (wi.map n8).toArray)); rfl; rfl; exact M.r0; exact size33; (simp [HWL.out]); exact HO1.out; intro w4 K hr3; replace HO := hid (own_keptC HO.out K M.r0 (by decide)); replace hBw := Nat.le_trans hBw K.size; replace M := Mem.callPut (L1 := []) M (Or.inr ht13) K hr3; clear K hr3; simp only [List.nil_append] at M)
        | ((with_reducible apply W_buildIt (u := .int .u8 103) (vs := #[.int .u8 103]) (s := 1) M); rfl; rfl; exact Salg.underlying40; exact size5; exact zero5s; rfl; decide; decide; clear M; intro bn w6 hbn hbn2 KB M; replace HO := hid (own_kept HO.out KB); replace hBw := Nat.le_trans hBw KB.size; clear KB hbn2; simp only [Act.put, List.setIfInBounds_toArray, List.set_cons_zero, List.set_cons_succ])
        | ((with_reducible apply W_appendIt (base := B) (n := 9 * i) (m := 1) (s := 1) (bn := bn) (so := 0) (xs := (pushB fl i).map n8) (news := [n8 103]) (cs := #[n8 103]) M.tail); exact info5; exact Salg.underlying40; rfl; decide; decide; rfl; rfl; exact HO.out; omega; exact M.r0; rfl; exact one_news _; exact one_one rfl; exact hwB; exact hBw; exact apart3 (own_type HO.out M.r1 (by decide)) (own_type HO.out M.r2 (by decide)) (own_type HO.out M.r3 (by decide)); clear M; intro cv2 w7 M xO hb3 KA; replace HO := hid xO; replace hBw := hb3; clear xO hb3 KA; simp only [Act.put, List.setIfInBounds_toArray, List.set_cons_zero, List.set_cons_succ])
        | ((with_reducible apply W_sliceArr (l := 0) (h := 8) (m := 8)); rfl; exact Salg.underlying33; exact size5; (first | exact Or.inl ⟨rfl, rfl⟩ | exact Or.inr ⟨_, _, _, rfl, rfl, by omega⟩); (first | exact Or.inl ⟨rfl, rfl⟩ | exact Or.inr ⟨_, _, _, rfl, rfl, by omega⟩); (first | exact Or.inl ⟨rfl, rfl⟩ | exact Or.inr ⟨_, _, _, rfl, rfl, by omega⟩); (first | exact Or.inl rfl | exact Or.inr rfl); omega; omega; omega; omega; (try simp only [Nat.zero_add, Nat.sub_zero]); simp only [Act.put, List.setIfInBounds_toArray, List.set_cons_zero, List.set_cons_succ])
        | ((with_reducible apply W_appendIt (base := B) (n := 9 * i + 1) (m := 8) (s := 1) (bn := t13) (so := 0) (xs := (pushB fl i).map n8 ++ [n8 103]) (news := wi.map n8) (cs := (wi.map n8).toArray) M); exact info5; exact Salg.underlying40; rfl; decide; decide; rfl; rfl; exact HO.out; omega; exact M.r0; (simp [HWL.out]); exact cells_news _; exact n8_one _; exact hwB; exact hBw; exact apart3 (own_type HO.out M.r0 (by decide)) (own_type HO.out M.r1 (by decide)) (own_type HO.out M.r2 (by decide)); clear M; intro cv2 w7 M xO hb3 KA; replace HO := hid xO; replace hBw := hb3; clear xO hb3 KA; simp only [Act.put, List.setIfInBounds_toArray, List.set_cons_zero, List.set_cons_succ]))
      go_roundw
      case rel =>
        refine ⟨i + 1, by omega, by go_num, M.tail, hBw, ?_⟩
        have hO := HO.out
        rw [HSU.out, show 9 * (i + 1) = 9 * i + 1 + 8 by omega]
        simpa using hO
      case measure => simp [intOf]; omega
    · obtain rfl : i = 17 := by omega
      clear hge hi
      go_wp2_with (first
        | ((with_reducible apply W_buildIt (u := .int .u8 ((144 + n % 16 : Nat) : Int)) (vs := #[.int .u8 ((144 + n % 16 : Nat) : Int)]) (s := 1) M); rfl; rfl; exact Salg.underlying40; exact size5; exact zero5s; rfl; decide; decide; clear M; intro bn w6 hbn hbn2 KB M; replace HO := hid (own_kept HO.out KB); replace hBw := Nat.le_trans hBw KB.size; clear KB hbn2; simp only [Act.put, List.setIfInBounds_toArray, List.set_cons_zero, List.set_cons_succ])
        | ((with_reducible apply W_appendIt (base := B) (n := 9 * 17) (m := 1) (s := 1) (bn := bn) (so := 0) (xs := (pushB fl 17).map n8) (news := [n8 (144 + n % 16)]) (cs := #[n8 (144 + n % 16)]) M.tail); exact info5; exact Salg.underlying40; rfl; decide; decide; rfl; rfl; exact HO.out; omega; exact M.r0; rfl; exact one_news _; exact one_one rfl; exact hwB; exact hBw; exact apart2 (own_type HO.out M.r1 (by decide)) (own_type HO.out M.r2 (by decide)); clear M; intro cv2 w7 M xO hb3 KA; replace HO := hid xO; replace hBw := hb3; clear xO hb3 KA; simp only [Act.put, List.setIfInBounds_toArray, List.set_cons_zero, List.set_cons_succ])
)
      go_ret
      refine ⟨_, rfl, ?_, M.kept⟩
      have hR := RowV.own HO.out
      rw [HTB.out]
      simpa using hR

set_option maxHeartbeats 4000000 in
set_option maxRecDepth 100000 in
theorem movesProgram_3 (kind n cut : Nat) (fl im : List Nat) (w : World) (hk : kind % 4 = 3) (hk2 : kind < 256) (hn : n < 256) (hcu : cut < 256) (hfl : fl.length = 136) (him : im.length = 32) :
    Calls Salg.prog 15 #[n8 kind, n8 n, n8 cut, .agg (fl.map n8).toArray, A8 im] w fun e w' => ∃ v, e = .returned v ∧ RowV w' 5 v ((pushB fl 17 ++ tailB kind n cut im).map n8) ∧ Kept [] w w' := by
  have M := Mem.start w []
  have HFL := hid hfl
  have HIM := hid him
  have HTB : Hid (tailB kind n cut im = (95 + n % 33) :: im.take (min (n % 33) cut)) := by show _ = _; simp [tailB, hk]
  have dk0 : decide ((kind : Int) % 4 = 0) = false := by simp; omega
  have ek0 : decide (kind % 4 = 0) = false := by simp; omega
  have dk1 : decide ((kind : Int) % 4 = 1) = false := by simp; omega
  have ek1 : decide (kind % 4 = 1) = false := by simp; omega
  have dk2 : decide ((kind : Int) % 4 = 2) = false := by simp; omega
  have ek2 : decide (kind % 4 = 2) = false := by simp; omega
  obtain ⟨j, hj⟩ : ∃ j, j = min (n % 33) cut := ⟨_, rfl⟩
  have hj32 : j ≤ 32 := by omega
  have HJ := hid hj
  rw [← hj] at HTB
  have HIN : Hid (∀ (k : Nat) (u : Value), ((im.take j).map n8)[k]? = some u → (im.map n8).toArray[0 + k]? = some u) := by
    intro k u hu
    rw [Nat.zero_add, List.getElem?_toArray]
    have hlt := (List.getElem?_eq_some_iff.1 hu).1
    rw [List.getElem?_map, List.getElem?_take_of_lt (by simp at hlt; omega)] at hu
    rw [List.getElem?_map]
    exact hu
  clear hfl him
  go_enter Salg.func15, Salg.ntmps15
  go_wp2_with (first
    | ((with_reducible apply L_box (d := 8) M); rfl; clear M; intro t8 w1 ht8 M; simp only [Act.put, List.setIfInBounds_toArray, List.set_cons_zero, List.set_cons_succ])
    | ((with_reducible apply L_box (d := 9) M); rfl; clear M; intro t9 w2 ht9 M; simp only [Act.put, List.setIfInBounds_toArray, List.set_cons_zero, List.set_cons_succ])
    | ((with_reducible apply W_loadAll); rfl; exact M.r1; exact Salg.underlying34; rfl; (rw [size34]; simp [HFL.out]); simp only [Act.put, List.setIfInBounds_toArray, List.set_cons_zero, List.set_cons_succ]))
  obtain ⟨B, hB⟩ : ∃ B : Nat, B = w2.heap.size := ⟨_, rfl⟩
  have hwB : w.heap.size ≤ B := by rw [hB]; exact M.kept.size
  have hBle := Nat.le_of_eq hB
  clear hB
  go_loopw [11, 17] (fun cv iv wr => ∃ i : Nat, i ≤ 17 ∧ iv = .int .i64 i ∧ Mem w [] [(t9, .cells (im.map n8).toArray 22 (0, 0)), (t8, .cells (fl.map n8).toArray 34 (0, 0))] wr ∧ B ≤ wr.heap.size ∧ wr.ownsRow B 5 1 cv (9 * i) ((pushB fl i).map n8)) (fun _ iv _ => (17 - intOf iv).toNat)
  case atStart => exact ⟨0, by omega, rfl, M, hBle, own_nil _ _ _ _⟩
  case round =>
    clear M
    obtain ⟨i, hi, rfl, M, hBw, xO⟩ := hrel
    have HO := hid xO
    clear xO
    rcases Nat.lt_or_ge i 17 with hlt | hge
    · have HEX := hid (wsI_ext HFL.out hlt)
      have HWL := hid (wsI_len HFL.out hlt)
      have HSU := hid (pushB_succ fl i)
      generalize wsI fl i = wi at *
      have HO1 : Hid (∀ u ∈ (wi.map n8).toArray.toList, u.oneCell' = true) := oneT (n8_one wi)
      go_wp2_with (first
        | ((with_reducible apply W_indexRow (n := i) (m := 8) (vs := (wi.map n8).toArray)); rfl; rfl; rfl; exact Salg.underlying34; exact Salg.underlying33; exact size33; exact hlt; exact HEX.out; simp only [Act.put, List.setIfInBounds_toArray, List.set_cons_zero, List.set_cons_succ])
        | ((with_reducible apply L_allocN (d := 13) M); exact zero33; clear M; intro t13 w3 ht13 ht13b KB M; replace HO := hid (own_kept HO.out KB); replace hBw := Nat.le_trans hBw KB.size; clear KB ht13b; simp only [Act.put, List.setIfInBounds_toArray, List.set_cons_zero, List.set_cons_succ])
        | ((with_reducible apply W_storeK (b := t13) (vs := (wi.map n8).toArray)); rfl; rfl; exact M.r0; exact size33; (simp [HWL.out]); exact HO1.out; intro w4 K hr3; replace HO := hid (own_keptC HO.out K M.r0 (by decide)); replace hBw := Nat.le_trans hBw K.size; replace M := Mem.callPut (L1 := []) M (Or.inr ht13) K hr3; clear K hr3; simp only [List.nil_append] at M)
        | ((with_reducible apply W_buildIt (u := .int .u8 103) (vs := #[.int .u8 103]) (s := 1) M); rfl; rfl; exact Salg.underlying40; exact size5; exact zero5s; rfl; decide; decide; clear M; intro bn w6 hbn hbn2 KB M; replace HO := hid (own_kept HO.out KB); replace hBw := Nat.le_trans hBw KB.size; clear KB hbn2; simp only [Act.put, List.setIfInBounds_toArray, List.set_cons_zero, List.set_cons_succ])
        | ((with_reducible apply W_appendIt (base := B) (n := 9 * i) (m := 1) (s := 1) (bn := bn) (so := 0) (xs := (pushB fl i).map n8) (news := [n8 103]) (cs := #[n8 103]) M.tail); exact info5; exact Salg.underlying40; rfl; decide; decide; rfl; rfl; exact HO.out; omega; exact M.r0; rfl; exact one_news _; exact one_one rfl; exact hwB; exact hBw; exact apart3 (own_type HO.out M.r1 (by decide)) (own_type HO.out M.r2 (by decide)) (own_type HO.out M.r3 (by decide)); clear M; intro cv2 w7 M xO hb3 KA; replace HO := hid xO; replace hBw := hb3; clear xO hb3 KA; simp only [Act.put, List.setIfInBounds_toArray, List.set_cons_zero, List.set_cons_succ])
        | ((with_reducible apply W_sliceArr (l := 0) (h := 8) (m := 8)); rfl; exact Salg.underlying33; exact size5; (first | exact Or.inl ⟨rfl, rfl⟩ | exact Or.inr ⟨_, _, _, rfl, rfl, by omega⟩); (first | exact Or.inl ⟨rfl, rfl⟩ | exact Or.inr ⟨_, _, _, rfl, rfl, by omega⟩); (first | exact Or.inl ⟨rfl, rfl⟩ | exact Or.inr ⟨_, _, _, rfl, rfl, by omega⟩); (first | exact Or.inl rfl | exact Or.inr rfl); omega; omega; omega; omega; (try simp only [Nat.zero_add, Nat.sub_zero]); simp only [Act.put, List.setIfInBounds_toArray, List.set_cons_zero, List.set_cons_succ])
        | ((with_reducible apply W_appendIt (base := B) (n := 9 * i + 1) (m := 8) (s := 1) (bn := t13) (so := 0) (xs := (pushB fl i).map n8 ++ [n8 103]) (news := wi.map n8) (cs := (wi.map n8).toArray) M); exact info5; exact Salg.underlying40; rfl; decide; decide; rfl; rfl; exact HO.out; omega; exact M.r0; (simp [HWL.out]); exact cells_news _; exact n8_one _; exact hwB; exact hBw; exact apart3 (own_type HO.out M.r0 (by decide)) (own_type HO.out M.r1 (by decide)) (own_type HO.out M.r2 (by decide)); clear M; intro cv2 w7 M xO hb3 KA; replace HO := hid xO; replace hBw := hb3; clear xO hb3 KA; simp only [Act.put, List.setIfInBounds_toArray, List.set_cons_zero, List.set_cons_succ]))
      go_roundw
      case rel =>
        refine ⟨i + 1, by omega, by go_num, M.tail, hBw, ?_⟩
        have hO := HO.out
        rw [HSU.out, show 9 * (i + 1) = 9 * i + 1 + 8 by omega]
        simpa using hO
      case measure => simp [intOf]; omega
    · obtain rfl : i = 17 := by omega
      clear hge hi
      go_wp2_with (first
        | ((with_reducible apply W_buildIt (u := .int .u8 ((95 + n % 33 : Nat) : Int)) (vs := #[.int .u8 ((95 + n % 33 : Nat) : Int)]) (s := 1) M); rfl; rfl; exact Salg.underlying40; exact size5; exact zero5s; rfl; decide; decide; clear M; intro bn w6 hbn hbn2 KB M; replace HO := hid (own_kept HO.out KB); replace hBw := Nat.le_trans hBw KB.size; clear KB hbn2; simp only [Act.put, List.setIfInBounds_toArray, List.set_cons_zero, List.set_cons_succ])
        | ((with_reducible apply W_appendIt (base := B) (n := 9 * 17) (m := 1) (s := 1) (bn := bn) (so := 0) (xs := (pushB fl 17).map n8) (news := [n8 (95 + n % 33)]) (cs := #[n8 (95 + n % 33)]) M.tail); exact info5; exact Salg.underlying40; rfl; decide; decide; rfl; rfl; exact HO.out; omega; exact M.r0; rfl; exact one_news _; exact one_one rfl; exact hwB; exact hBw; exact apart2 (own_type HO.out M.r1 (by decide)) (own_type HO.out M.r2 (by decide)); clear M; intro cv2 w7 M xO hb3 KA; replace HO := hid xO; replace hBw := hb3; clear xO hb3 KA; simp only [Act.put, List.setIfInBounds_toArray, List.set_cons_zero, List.set_cons_succ])
        | ((with_reducible apply W_sliceArr (l := 0) (h := j) (m := 32)); rfl; exact Salg.underlying22; exact size5; (first | exact Or.inl ⟨rfl, rfl⟩ | exact Or.inr ⟨_, _, _, rfl, rfl, by omega⟩); (first | exact Or.inl ⟨rfl, rfl⟩ | exact Or.inr ⟨_, _, _, rfl, rfl, by omega⟩); (first | exact Or.inl ⟨rfl, rfl⟩ | exact Or.inr ⟨_, _, _, rfl, rfl, by omega⟩); (first | exact Or.inl rfl | exact Or.inr rfl); omega; omega; omega; omega; (try simp only [Nat.zero_add, Nat.sub_zero]); simp only [Act.put, List.setIfInBounds_toArray, List.set_cons_zero, List.set_cons_succ])
        | ((with_reducible apply W_appendIt (base := B) (n := 9 * 17 + 1) (m := j) (s := 1) (bn := t9) (so := 0) (xs := (pushB fl 17).map n8 ++ [n8 (95 + n % 33)]) (news := (im.take j).map n8) (cs := (im.map n8).toArray) M); exact info5; exact Salg.underlying40; rfl; decide; decide; rfl; rfl; exact HO.out; omega; exact M.r0; (simp [HIM.out]; omega); exact HIN.out; exact n8_one _; exact hwB; exact hBw; exact apart2 (own_type HO.out M.r0 (by decide)) (own_type HO.out M.r1 (by decide)); clear M; intro cv2 w7 M xO hb3 KA; replace HO := hid xO; replace hBw := hb3; clear xO hb3 KA; simp only [Act.put, List.setIfInBounds_toArray, List.set_cons_zero, List.set_cons_succ])
)
      all_goals
        go_ret
        refine ⟨_, rfl, ?_, M.kept⟩
        have hR := RowV.own HO.out
        rw [HTB.out]
        simpa using hR
end Go.Proofs.YgcsalGreat

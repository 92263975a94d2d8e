/-
  The walk of kmodel.Sum on 23 bytes.
-/
import Derived.Test.YgcsalGreatKc5
import Derived.Test.YgcsalGreatSl1
import Derived.Test.YgcsalGreatMv36
set_option linter.unusedSimpArgs false
set_option linter.unusedVariables false
namespace Go.Own
section
variable {P : Program} {ops : Array Oper} {Q : Exit → Act → World → Prop} {rest : List Oper} {a : Act} {w w0 : World} {X : List Nat} {L : List (Nat × Obj)}
theorem run_makeCap2 {l c : Operand} {t e ty' : TypeId} {j : Int} {ki kj : IntKind} {n by1 : Nat} {z : Value} {dst : Option Tmp} {pos : String} {after : Array Edge} {g : Option (Nat × Bool)}
    (hl : a.eval l = .int ki 0) (hc : a.eval c = .int kj j) (hj : j = (n : Nat)) (hn : n ≤ 100000) (h0 : n ≠ 0) (hu : P.underlying t = some (.slice e))
    (he : (P.info? e).map (fun i => (i.zero, i.size, i.bytes)) = some (some z, 1, by1)) (hzs : z.cells.size = 1) (hby : by1 ≤ 1000) :
    (execOp a.eval { dst := dst, op := .makeSlice t l c, type := ty', pos := pos, after := after, guard := g }).run P w =
      .ok (.value (.slice (some ⟨w.heap.size, 0, none⟩) 0 n)) { w with heap := w.heap.push (.cells ((Array.range (n * 1)).map (fun x => z.cells[x % 1]!)) e (0, 0)) } := by
  subst hj
  cases hq : P.info? e with
  | none => simp [hq] at he
  | some inf =>
    simp only [hq, Option.map_some, Option.some.injEq, Prod.mk.injEq] at he
    obtain ⟨h1, h2, h3⟩ := he
    subst h3
    have hw : IntKind.i64.wrap (n : Int) = (n : Int) := by simp [IntKind.wrap, IntKind.bits, IntKind.signed]; omega
    have hw0 : IntKind.i64.wrap 0 = 0 := by decide
    have hnt : ¬ ((n : Int) < 0) := by omega
    have hm : n * inf.bytes ≤ 100000 * 1000 := Nat.mul_le_mul hn hby
    have hb : ¬ (281474976710656 < (inf.bytes : Int) * (n : Int)) := by
      have : ((n * inf.bytes : Nat) : Int) = (inf.bytes : Int) * (n : Int) := by rw [Int.natCast_mul, Int.mul_comm]
      omega
    have haskroom : ∀ k, (askRoom k).run P w = .ok () w := by intro k; unfold askRoom; split <;> rfl
    simp [execOp, hl, hc, Instr.makeSlice, asInt, asIntOf, Sem.run_bind, run_underlying hu, typeInfo, hq, h1, h2, hzs, hw, hw0, hnt, hb, sizeOf, haskroom, newRow, newObj, Sem.run, zeroValue, h0]
theorem W_makeCap2 {l c : Operand} {t e ty' : TypeId} {j : Int} {ki kj : IntKind} {n by1 : Nat} {z : Value} {dst : Tmp} {pos : String} {after : Array Edge} (M : Mem w0 X L w)
    (hl : a.eval l = .int ki 0) (hc : a.eval c = .int kj j) (hj : j = (n : Nat)) (hn : n ≤ 100000) (h0 : n ≠ 0) (hu : P.underlying t = some (.slice e))
    (he : (P.info? e).map (fun i => (i.zero, i.size, i.bytes)) = some (some z, 1, by1)) (hzs : z.cells.size = 1) (hby : by1 ≤ 1000)
    (k : ∀ v w' B, Mem w0 X L w' → w'.ownsRow B e 1 v 0 [] → w0.heap.size ≤ B → B ≤ w'.heap.size → wpList P ops Q rest (a.put (some dst) v) w') :
    wpList P ops Q ({ dst := some dst, op := .makeSlice t l c, type := ty', pos := pos, after := after, guard := none } :: rest) a w := by
  have K := ((Mem.start w []).alloc (.cells ((Array.range (n * 1)).map (fun x => z.cells[x % 1]!)) e (0, 0))).2
  refine L_run rfl (run_makeCap2 hl hc hj hn h0 hu he hzs hby) (k _ _ w.heap.size (M.call K.kept) ⟨by simp, .inr ⟨w.heap.size, n, (Array.range (n * 1)).map (fun x => z.cells[x % 1]!), rfl, Nat.le_refl _, by simp, by omega, by simp only [maxLen]; omega, by simp, by simp⟩⟩ M.kept.size (by simp))
end
/-- The padded bits. -/
def padP (l : List Nat) (j : Nat) : Bool := if j < 184 then (l.getD (j / 8) 0).testBit (j % 8) else j == 184 || j == 1087
def pbl (p : Nat → Bool) (n : Nat) : List Value := (List.range n).map fun j => .bool (p j)
theorem pbl_succ (p : Nat → Bool) (n : Nat) : pbl p n ++ [.bool (p n)] = pbl p (n + 1) := by
  unfold pbl
  rw [List.range_succ, List.map_append]
  rfl
theorem pbl_get (p : Nat → Bool) {n j : Nat} (h : j < n) : (pbl p n)[j]? = some (.bool (p j)) := by
  unfold pbl
  rw [List.getElem?_map, List.getElem?_range h]
  rfl
def sliceLen : Value → Nat
  | .slice _ n _ => n
  | _ => 0
/-- A byte of the hash. -/
def obN (h : Nat → Bool) (m : Nat) : Nat → Nat
  | 0 => 0
  | k + 1 => if h (8 * m + k) then obN h m k + 2 ^ k else obN h m k
theorem obN_lt (h : Nat → Bool) (m : Nat) : ∀ k, obN h m k < 2 ^ k
  | 0 => by simp [obN]
  | k + 1 => by
    have ih := obN_lt h m k
    rw [obN]
    split <;> omega
def ouL (h : Nat → Bool) (i : Nat) : List Nat := (List.range 32).map fun m => obN h m (min 8 (i - 8 * m))
theorem ouL_len (h : Nat → Bool) (i : Nat) : (ouL h i).length = 32 := by simp [ouL]
theorem ouL_get (h : Nat → Bool) {i : Nat} (hi : i < 256) : (ouL h i)[i / 8]? = some (obN h (i / 8) (i % 8)) := by
  unfold ouL
  rw [List.getElem?_map, List.getElem?_range (by omega)]
  simp only [Option.map_some]
  rw [show min 8 (i - 8 * (i / 8)) = i % 8 by omega]
theorem ouL_yes (h : Nat → Bool) {i : Nat} (hi : i < 256) (hh : h i = true) : (ouL h i).set (i / 8) (obN h (i / 8) (i % 8) + 2 ^ (i % 8)) = ouL h (i + 1) := by
  refine List.ext_getElem? fun m => ?_
  rw [List.getElem?_set, ouL_len]
  by_cases h1 : i / 8 = m
  · subst h1
    rw [if_pos rfl, if_pos (by omega)]
    unfold ouL
    rw [List.getElem?_map, List.getElem?_range (by omega)]
    simp only [Option.map_some]
    rw [show min 8 (i + 1 - 8 * (i / 8)) = i % 8 + 1 by omega, obN, show 8 * (i / 8) + i % 8 = i by omega, hh]
    rfl
  · rw [if_neg h1]
    unfold ouL
    rw [List.getElem?_map, List.getElem?_map]
    by_cases h2 : m < 32
    · rw [List.getElem?_range h2]
      simp only [Option.map_some]
      rw [show min 8 (i - 8 * m) = min 8 (i + 1 - 8 * m) by omega]
    · rw [List.getElem?_eq_none (by simp; omega)]
      rfl
theorem ouL_no (h : Nat → Bool) {i : Nat} (hi : i < 256) (hh : h i = false) : ouL h i = ouL h (i + 1) := by
  refine List.ext_getElem? fun m => ?_
  unfold ouL
  rw [List.getElem?_map, List.getElem?_map]
  by_cases h2 : m < 32
  · rw [List.getElem?_range h2]
    simp only [Option.map_some]
    by_cases h1 : i / 8 = m
    · subst h1
      rw [show min 8 (i + 1 - 8 * (i / 8)) = i % 8 + 1 by omega, obN, show 8 * (i / 8) + i % 8 = i by omega, hh, show min 8 (i - 8 * (i / 8)) = i % 8 by omega]
      rfl
    · rw [show min 8 (i - 8 * m) = min 8 (i + 1 - 8 * m) by omega]
  · rw [List.getElem?_eq_none (by simp; omega)]
    rfl
theorem or_low : ∀ k, k < 8 → ∀ g : Nat, g < 2 ^ k → bits .or .u8 (g : Int) (2 ^ k % 256) = ((g + 2 ^ k : Nat) : Int) := by decide +kernel
def smS (p : Nat → Bool) (i : Nat) : Nat → Bool := if i < 1088 then (fun j => if j < i then p j else false) else keccakB (fun j => if j < 1088 then p j else false)
theorem smS_lt (p : Nat → Bool) {i : Nat} (h : i < 1088) : smS p i = fun j => if j < i then p j else false := by
  unfold smS
  rw [if_pos h]
theorem smS_step (p : Nat → Bool) {i j : Nat} (hi : i < 1087) : upd (smS p i) (i % 1088) (smS p i (i % 1088) != p i) j = smS p (i + 1) j := by
  rw [Nat.mod_eq_of_lt (by omega), smS_lt p (by omega), smS_lt p (by omega)]
  unfold upd
  by_cases h : j = i
  · subst h
    simp
  · by_cases h1 : j < i
    · have h2 : j < i + 1 := by omega
      simp [h, h1, h2]
    · have h2 : ¬ j < i + 1 := by omega
      simp [h, h1, h2]
theorem smS_last (p : Nat → Bool) {j : Nat} : upd (smS p 1087) 1087 (smS p 1087 1087 != p 1087) j = if j < 1088 then p j else false := by
  rw [smS_lt p (by omega)]
  unfold upd
  by_cases h : j = 1087
  · subst h
    simp
  · by_cases h1 : j < 1087
    · have h2 : j < 1088 := by omega
      simp [h, h1, h2]
    · have h2 : ¬ j < 1088 := by omega
      simp [h, h1, h2]
theorem smS_ge (p : Nat → Bool) : smS p 1088 = keccakB (fun j => if j < 1088 then p j else false) := by
  unfold smS
  rw [if_neg (by omega)]
theorem smS_start (p : Nat → Bool) {j : Nat} : false = smS p 0 j := by
  rw [smS_lt p (by omega)]
  simp
theorem own_form {w : World} {B : Nat} {v : Value} {n : Nat} {xs : List Value} (h : w.ownsRow B 4 1 v n xs) (h0 : n ≠ 0) : ∃ g cap cur, v = .slice (some ⟨g, 0, none⟩) n cap ∧ B ≤ g ∧ w.heap[g]? = some (.cells cur 4 (0, 0)) ∧ ∀ (j : Nat) (u : Value), j < n → xs[j]? = some u → cur[j]? = some u := by
  obtain ⟨h1, ⟨_, h2⟩ | ⟨g, cap, cur, h2, h3, h4, h5, h6, h7, h8⟩⟩ := h
  · exact absurd h2 h0
  · refine ⟨g, cap, cur, h2, h3, h4, fun j u hj hu => ?_⟩
    rw [← h8, List.getElem?_take_of_lt (by omega), Array.getElem?_toList] at hu
    exact hu
theorem pad_cells {p : Nat → Bool} {cur : Array Value} (hp : p 1087 = true) (h : ∀ (j : Nat) (u : Value), j < 1087 + 1 → (pbl p 1087 ++ [.bool true])[j]? = some u → cur[j]? = some u) : ∀ j, j < 1088 → cur[j]? = some (.bool (p j)) := by
  intro j hj
  refine h j _ hj ?_
  rw [show ([.bool true] : List Value) = [.bool (p 1087)] by rw [hp], pbl_succ, pbl_get p hj]
theorem Mem.add4 {w0 w : World} {X : List Nat} {g b : Nat} {cur : Array Value} {l : List Nat} (M : Mem w0 X [(b, R8 22 l)] w) (h : w.heap[g]? = some (.cells cur 4 (0, 0))) : Mem w0 X [(g, .cells cur 4 (0, 0)), (b, R8 22 l)] w := by
  refine M.add h fun q hq => ?_
  simp only [List.mem_singleton] at hq
  subst hq
  intro e
  rw [e] at h
  have h9 := h.symm.trans M.r0
  injection h9 with h9
  injection h9 with _ h9 _
  exact absurd h9 (by decide)
/-- The hash of 23 bytes. -/
def ksum (l : List Nat) : List Nat := ouL (keccakB (fun j => if j < 1088 then padP l j else false)) 256
theorem ksum_len (l : List Nat) : (ksum l).length = 32 := ouL_len _ _
end Go.Own
namespace Go.Proofs.YgcsalGreat
open Go.RowKit Go.Own
theorem info4 : (Salg.prog.info? 4).map (fun i => (i.zero, i.size, i.bytes)) = some (some (.bool false), 1, 1) := by kernel_rfl
set_option maxRecDepth 100000 in
theorem zero259 : ((Salg.prog.info? 259).bind (·.zero)) = some (.agg (BA 1600 fun _ => false)) := by kernel_rfl

set_option maxHeartbeats 4000000 in
set_option maxRecDepth 100000 in
theorem sum_any (b o t cp : Nat) (cs : Array Value) (l : List Nat) (w : World) (hr : w.heap[b]? = some (.cells cs t (0, 0))) (hc : ∀ k x, l[k]? = some x → cs[o + k]? = some (n8 x)) (hl : l.length = 23) (hs : Small l) :
    Calls Salg.prog 177 #[.slice (some ⟨b, o, none⟩) 23 cp] w fun e w' => e = .returned (A8 (ksum l)) ∧ Kept [] w w' := by
  have M := Mem.start w []
  have HF := hid (fun b t f w' (h : w'.heap[b]? = some (RB t 1600 f)) => F_any b t f w' h)
  obtain ⟨p, hp⟩ : ∃ p, p = padP l := ⟨_, rfl⟩
  have HBY : Hid (∀ i, i < 23 → ∃ x, x < 256 ∧ cs[o + i]? = some (n8 x) ∧ ∀ k, k < 8 → p (8 * i + k) = x.testBit k) := by
    intro i hi
    have e : l[i]? = some l[i] := List.getElem?_eq_getElem (by omega)
    refine ⟨l[i], hs _ (List.getElem_mem _), hc i _ e, fun k hk => ?_⟩
    rw [hp, padP, if_pos (by omega), show (8 * i + k) / 8 = i by omega, show (8 * i + k) % 8 = k by omega, List.getD_eq_getElem?_getD, e]
    rfl
  have HP1 : Hid (p 184 = true) := by show _ = _; rw [hp]; rfl
  have HP2 : Hid (∀ j, 185 ≤ j → j < 1087 → p j = false) := by
    intro j h1 h2
    have a1 : (j == 184) = false := by simp; omega
    have a2 : (j == 1087) = false := by simp; omega
    rw [hp, padP, if_neg (by omega), a1, a2]
    rfl
  have HP3 : Hid (p 1087 = true) := by show _ = _; rw [hp]; rfl
  have HKS : Hid (ksum l = ouL (keccakB (fun j => if j < 1088 then p j else false)) 256) := by show _ = _; rw [hp]; rfl
  have HR := hid (fun w' (K : Kept [] w w') => K.row hr (by simp))
  clear hc hs hl hp hr
  go_enter Salg.func177, Salg.ntmps177
  go_wp2_with (first
    | ((with_reducible apply L_allocA (d := 2) M); exact zero22; clear M; intro b2 w1 hb2 M; simp only [Act.put, List.setIfInBounds_toArray, List.set_cons_zero, List.set_cons_succ])
    | ((with_reducible apply W_makeCap2 (n := 2360) M); rfl; rfl; rfl; decide; decide; exact Salg.underlying258; exact info4; rfl; decide; clear M; intro v3 w2 B M xO hwB hBw; have HO := hid xO; clear xO; simp only [Act.put, List.setIfInBounds_toArray, List.set_cons_zero, List.set_cons_succ]))
  go_loopw [3, 19] (fun sv iv wr => ∃ i : Nat, i ≤ 23 ∧ iv = .int .i64 (i : Int) ∧ wr.ownsRow B 4 1 sv (8 * i) (pbl p (8 * i)) ∧ B ≤ wr.heap.size ∧ Mem w [] [(b2, R8 22 (List.replicate 32 0))] wr) (fun _ iv _ => (23 - intOf iv).toNat)
  case atStart => exact ⟨0, by omega, rfl, HO.out, hBw, M⟩
  case round =>
    clear M HO hBw
    obtain ⟨i, hi, rfl, xO, hBw, M⟩ := hrel
    have HO := hid xO
    clear xO
    rcases Nat.lt_or_ge i 23 with hlt | hge
    · obtain ⟨x, hx, hxc, hxb⟩ := HBY.out i hlt
      have HXB := hid hxb
      clear hxb
      have HR1 := hid (HR.out _ M.kept)
      go_wp2_with ((with_reducible apply W_loadCell); rfl; exact HR1.out; exact hxc; exact Salg.underlying5; rfl; simp only [Act.put, List.setIfInBounds_toArray, List.set_cons_zero, List.set_cons_succ])
      go_loopw [3, 6] (fun sv iv wr => ∃ k : Nat, k ≤ 8 ∧ iv = .int .i64 (k : Int) ∧ wr.ownsRow B 4 1 sv (8 * i + k) (pbl p (8 * i + k)) ∧ B ≤ wr.heap.size ∧ Mem w [] [(b2, R8 22 (List.replicate 32 0))] wr) (fun _ iv _ => (8 - intOf iv).toNat)
      case atStart => exact ⟨0, by omega, rfl, HO.out, hBw, M⟩
      case round =>
        clear M HO hBw HR1
        obtain ⟨k, hk, rfl, xO, hBw, M⟩ := hrel
        have HO := hid xO
        clear xO
        rcases Nat.lt_or_ge k 8 with hlk | hgk
        · have HV : Hid ((bits .and .u8 ((x : Int) / 2 ^ k) 1 == 1) = p (8 * i + k)) := by
            show _ = _
            rw [HXB.out k hlk, and1_int hx, Nat.testBit_eq_decide_div_mod_eq]
            show decide _ = decide _
            congr 1
            simp only [eq_iff_iff]
            omega
          go_wp2_with (first
            | ((with_reducible apply W_buildN (d := 33) (vs := #[.bool (bits .and .u8 ((x : Int) / 2 ^ k) 1 == 1)]) (e := 4) M); kernel_rfl; clear M; intro bn wb hbn hbq KB M; replace HO := hid (own_kept HO.out KB); replace hBw := Nat.le_trans hBw KB.size; clear KB hbq; simp only [Act.put, List.setIfInBounds_toArray, List.set_cons_zero, List.set_cons_succ])
            | ((with_reducible apply W_appendIt (d := 34) (base := B) (n := 8 * i + k) (m := 1) (s := 1) (bn := bn) (so := 0) (xs := pbl p (8 * i + k)) (news := [.bool (bits .and .u8 ((x : Int) / 2 ^ k) 1 == 1)]) (cs := #[.bool (bits .and .u8 ((x : Int) / 2 ^ k) 1 == 1)]) M.tail); exact info4; exact Salg.underlying258; rfl; decide; decide; rfl; rfl; exact HO.out; omega; exact M.r0; rfl; exact one_news _; exact one_one rfl; exact hwB; exact hBw; exact apart1 (own_type HO.out M.r1 (by decide)); clear M; intro sv2 w7 M xO hb3 KA; replace HO := hid xO; replace hBw := hb3; clear xO hb3 KA; simp only [Act.put, List.setIfInBounds_toArray, List.set_cons_zero, List.set_cons_succ]))
          rw [HV.out, pbl_succ] at HO
          go_roundw
          case rel => exact ⟨k + 1, by omega, by go_num, HO.out, hBw, M⟩
          case measure => simp [intOf]; omega
        · have e : k = 8 := by omega
          subst e
          go_wp2_with fail
          go_roundw
          case rel => exact ⟨i + 1, by omega, by go_num, HO.out, hBw, M⟩
          case measure => simp [intOf]; omega
    · have e : i = 23 := by omega
      have d1 : decide ((i : Int) < 23) = false := by simp; omega
      rw [e] at HO
      clear e
      replace HO : Hid (World.ownsRow _ B 4 1 _ 184 (pbl p 184)) := HO
      go_wp2_with (first
        | ((with_reducible apply W_buildN (d := 37) (vs := #[.bool true]) (e := 4) M); kernel_rfl; clear M; intro bn wb hbn hbq KB M; replace HO := hid (own_kept HO.out KB); replace hBw := Nat.le_trans hBw KB.size; clear KB hbq; simp only [Act.put, List.setIfInBounds_toArray, List.set_cons_zero, List.set_cons_succ])
        | ((with_reducible apply W_appendIt (d := 38) (base := B) (n := 184) (m := 1) (s := 1) (bn := bn) (so := 0) (xs := pbl p (184)) (news := [.bool true]) (cs := #[.bool true]) M.tail); exact info4; exact Salg.underlying258; rfl; decide; decide; rfl; rfl; exact HO.out; omega; exact M.r0; rfl; exact one_news _; exact one_one rfl; exact hwB; exact hBw; exact apart1 (own_type HO.out M.r1 (by decide)); clear M; intro sv2 w7 M xO hb3 KA; replace HO := hid xO; replace hBw := hb3; clear xO hb3 KA; simp only [Act.put, List.setIfInBounds_toArray, List.set_cons_zero, List.set_cons_succ]))
      replace HO : Hid (w7.ownsRow B 4 1 sv2 185 (pbl p 185)) := by
        have h := HO.out
        rw [show ([.bool true] : List Value) = [.bool (p 184)] by rw [HP1.out], pbl_succ] at h
        exact h
      clear d1
      go_loopw [3] (fun sv wr => ∃ n : Nat, 185 ≤ n ∧ n ≤ 1087 ∧ sliceLen sv = n ∧ wr.ownsRow B 4 1 sv n (pbl p n) ∧ B ≤ wr.heap.size ∧ Mem w [] [(b2, R8 22 (List.replicate 32 0))] wr) (fun sv _ => 1087 - sliceLen sv)
      case atStart =>
        refine ⟨185, by omega, by omega, ?_, HO.out, hBw, M⟩
        obtain ⟨g, cap, cur, e, _⟩ := own_form HO.out (by decide)
        rw [e]
        rfl
      case round =>
        clear M HO hBw
        obtain ⟨n, hn1, hn2, hnl, xO, hBw, M⟩ := hrel
        have HO := hid xO
        obtain ⟨g, cap, cur, rfl, hgB, hg, hgc⟩ := own_form xO (by omega)
        have HG := hid hg
        have HGC := hid hgc
        clear xO hnl hg hgc
        rcases Nat.lt_or_ge n 1087 with hlt | hge
        · have HV := hid (HP2.out n hn1 hlt)
          clear HG HGC
          go_wp2_with (first
            | ((with_reducible apply W_buildN (d := 44) (vs := #[.bool false]) (e := 4) M); kernel_rfl; clear M; intro bn wb hbn hbq KB M; replace HO := hid (own_kept HO.out KB); replace hBw := Nat.le_trans hBw KB.size; clear KB hbq; simp only [Act.put, List.setIfInBounds_toArray, List.set_cons_zero, List.set_cons_succ])
            | ((with_reducible apply W_appendIt (d := 45) (base := B) (n := n) (m := 1) (s := 1) (bn := bn) (so := 0) (xs := pbl p (n)) (news := [.bool false]) (cs := #[.bool false]) M.tail); exact info4; exact Salg.underlying258; rfl; decide; decide; rfl; rfl; exact HO.out; omega; exact M.r0; rfl; exact one_news _; exact one_one rfl; exact hwB; exact hBw; exact apart1 (own_type HO.out M.r1 (by decide)); clear M; intro sv2 w7 M xO hb3 KA; replace HO := hid xO; replace hBw := hb3; clear xO hb3 KA; simp only [Act.put, List.setIfInBounds_toArray, List.set_cons_zero, List.set_cons_succ]))
          replace HO : Hid (w7.ownsRow B 4 1 sv2 (n + 1) (pbl p (n + 1))) := by
            have h := HO.out
            rw [show ([.bool false] : List Value) = [.bool (p n)] by rw [HV.out], pbl_succ] at h
            exact h
          have HLN : Hid (sliceLen sv2 = n + 1) := by
            obtain ⟨g, cap, cur, e, _⟩ := own_form HO.out (by omega)
            show _ = _
            rw [e]
            rfl
          go_roundw
          case rel => exact ⟨n + 1, by omega, by omega, HLN.out, HO.out, hBw, M⟩
          case measure =>
            have h := HLN.out
            simp [sliceLen] at h ⊢
            omega
        · have e : n = 1087 := by omega
          subst e
          clear HG HGC
          go_wp2_with (first
            | ((with_reducible apply W_buildN (d := 47) (vs := #[.bool true]) (e := 4) M); kernel_rfl; clear M; intro bn wb hbn hbq KB M; replace HO := hid (own_kept HO.out KB); replace hBw := Nat.le_trans hBw KB.size; clear KB hbq; simp only [Act.put, List.setIfInBounds_toArray, List.set_cons_zero, List.set_cons_succ])
            | ((with_reducible apply W_appendIt (d := 48) (base := B) (n := 1087) (m := 1) (s := 1) (bn := bn) (so := 0) (xs := pbl p (1087)) (news := [.bool true]) (cs := #[.bool true]) M.tail); exact info4; exact Salg.underlying258; rfl; decide; decide; rfl; rfl; exact HO.out; omega; exact M.r0; rfl; exact one_news _; exact one_one rfl; exact hwB; exact hBw; exact apart1 (own_type HO.out M.r1 (by decide)); clear M; intro sv2 w7 M xO hb3 KA; obtain ⟨g2, cap2, cur2, rfl, hg2B, hg2, hg2c⟩ := own_form xO (by decide); have HG2 := hid (pad_cells HP3.out hg2c); replace M := Mem.add4 M hg2; clear xO hb3 KA hg2 hg2c; simp only [Act.put, List.setIfInBounds_toArray, List.set_cons_zero, List.set_cons_succ])
            | ((with_reducible apply L_allocA (d := 7) M); exact zero259; clear M; intro b7 w8 hb7 M; simp only [Act.put, List.setIfInBounds_toArray, List.set_cons_zero, List.set_cons_succ]))
          have hb7x : b7 ∈ ([] : List Nat) ∨ w.heap.size ≤ b7 := Or.inr hb7
          replace M := Mem.rb0 M fun j hj => smS_start p (j := j)
          (try simp only [Nat.reduceAdd, Int.cast_ofNat_Int])
          go_loopw [51] (fun iv wr => ∃ i : Nat, i ≤ 1088 ∧ iv = .int .i64 (i : Int) ∧ Mem w [] [(b7, RB 259 1600 (smS p i)), (g2, .cells cur2 4 (0, 0)), (b2, R8 22 (List.replicate 32 0))] wr) (fun iv _ => (1088 - intOf iv).toNat)
          case atStart => exact ⟨0, by omega, rfl, M⟩
          case round =>
            clear M HO hBw
            obtain ⟨i, hi, rfl, M⟩ := hrel
            rcases Nat.lt_or_ge i 1088 with hlt | hge
            · have HC := hid (HG2.out i hlt)
              rcases Nat.lt_or_ge i 1087 with hl7 | hg7
              · go_wp2_with (first
                  | ((with_reducible apply W_loadCell (dst := 55)); rfl; exact M.r1; exact HC.out; exact Salg.underlying4; rfl; simp only [Act.put, List.setIfInBounds_toArray, List.set_cons_zero, List.set_cons_succ])
                  | ((with_reducible apply W_loadCell (dst := 61)); rfl; exact M.r0; exact BA_get (i := i % 1088) (by omega); exact Salg.underlying4; rfl; simp only [Act.put, List.setIfInBounds_toArray, List.set_cons_zero, List.set_cons_succ])
                  | ((with_reducible apply W_stB (L1 := []) (b := b7) (o := i % 1088) (v := _)); rfl; rfl; exact M; exact hb7x; exact size4; omega; clear M; intro w5 M; simp only [List.cons_append, List.nil_append] at M))
                replace M := Mem.rb0 M fun j hj => smS_step p (i := i) (j := j) hl7
                go_roundw
                case rel => exact ⟨i + 1, by omega, by go_num, M⟩
                case measure => simp [intOf]; omega
              · have e : i = 1087 := by omega
                subst e
                go_wp2_with (first
                  | ((with_reducible apply W_loadCell (dst := 55)); rfl; exact M.r1; exact HC.out; exact Salg.underlying4; rfl; simp only [Act.put, List.setIfInBounds_toArray, List.set_cons_zero, List.set_cons_succ])
                  | ((with_reducible apply W_loadCell (dst := 61)); rfl; exact M.r0; exact BA_get (i := 1087) (by omega); exact Salg.underlying4; rfl; simp only [Act.put, List.setIfInBounds_toArray, List.set_cons_zero, List.set_cons_succ])
                  | ((with_reducible apply W_stB (L1 := []) (b := b7) (o := 1087) (v := _)); rfl; rfl; exact M; exact hb7x; exact size4; omega; clear M; intro w5 M; simp only [List.cons_append, List.nil_append] at M))
                replace M := Mem.rb0 M fun j hj => smS_last p (j := j)
                refine (HF.out b7 259 _ _ M.r0).mono ?_
                rintro e w3 ⟨r3, rfl, hr3, K3⟩
                replace M := Mem.callPut (L1 := []) M hb7x K3 hr3
                clear hr3 K3
                simp only [List.nil_append] at M
                rw [← smS_ge] at M
                go_wp2_with fail
                go_roundw
                case rel => exact ⟨1088, by omega, by go_num, M⟩
                case measure => simp [intOf]
            · have e : i = 1088 := by omega
              subst e
              rw [smS_ge] at M
              generalize keccakB (fun j => if j < 1088 then p j else false) = h at *
              go_wp2_with ((with_reducible apply L_allocA (d := 10) M); exact zero22; clear M; intro b10 w8 hb10 M; simp only [Act.put, List.setIfInBounds_toArray, List.set_cons_zero, List.set_cons_succ])
              have hb10x : b10 ∈ ([] : List Nat) ∨ w.heap.size ≤ b10 := Or.inr hb10
              replace M : Mem w [] [(b10, R8 22 (ouL h 0)), (b7, RB 259 1600 h), (g2, .cells cur2 4 (0, 0)), (b2, R8 22 (List.replicate 32 0))] w8 := M
              go_loopw [11] (fun iv wr => ∃ i : Nat, i ≤ 256 ∧ iv = .int .i64 (i : Int) ∧ Mem w [] [(b10, R8 22 (ouL h i)), (b7, RB 259 1600 h), (g2, .cells cur2 4 (0, 0)), (b2, R8 22 (List.replicate 32 0))] wr) (fun iv _ => (256 - intOf iv).toNat)
              case atStart => exact ⟨0, by omega, rfl, M⟩
              case round =>
                clear M
                obtain ⟨i, hi, rfl, M⟩ := hrel
                rcases Nat.lt_or_ge i 256 with hlt | hge
                · generalize hb : h i = hv
                  cases hv
                  · have HN := hid (ouL_no h hlt hb)
                    have HC : Hid ((BA 1600 h)[i]? = some (.bool false)) := by show _ = _; rw [BA_get (by omega), hb]
                    clear hb
                    go_wp2_with ((with_reducible apply W_loadCell); rfl; exact M.r1; exact HC.out; exact Salg.underlying4; rfl; simp only [Act.put, List.setIfInBounds_toArray, List.set_cons_zero, List.set_cons_succ])
                    rw [HN.out] at M
                    go_roundw
                    case rel => exact ⟨i + 1, by omega, by go_num, M⟩
                    case measure => simp [intOf]; omega
                  · have HY := hid (ouL_yes h hlt hb)
                    have HC : Hid ((BA 1600 h)[i]? = some (.bool true)) := by show _ = _; rw [BA_get (by omega), hb]
                    have HG : Hid (((ouL h i).map n8).toArray[i / 8]? = some (n8 (obN h (i / 8) (i % 8)))) := by show _ = _; simp [ouL_get h hlt]
                    have HOR := hid (or_low (i % 8) (by omega) (obN h (i / 8) (i % 8)) (obN_lt h (i / 8) (i % 8)))
                    have hle : i / 8 < (ouL h i).length := by rw [ouL_len]; omega
                    clear hb
                    go_wp2_with ((with_reducible apply W_loadCell); rfl; exact M.r1; exact HC.out; exact Salg.underlying4; rfl; simp only [Act.put, List.setIfInBounds_toArray, List.set_cons_zero, List.set_cons_succ])
                    refine S_region (by kernel_rfl) ?_
                    refine V_quiet 0 9 (by kernel_rfl) (by decide) M.drew ?_
                    clear M
                    simp only [List.take_succ_cons, List.take_zero, List.drop_zero, List.drop_succ_cons, Nat.sub_zero, Nat.reduceSub]
                    ((with_reducible apply V_run); rfl; (intro w M; go_simp; (try go_ints); (try simp only [↓IntWalk.iteOmega]); (try with_reducible rfl)); simp only [Act.put, List.setIfInBounds_toArray, List.set_cons_zero, List.set_cons_succ])
                    ((with_reducible apply V_run); rfl; (intro w M; go_simp; (try go_ints); (try simp only [↓IntWalk.iteOmega]); (try with_reducible rfl)); simp only [Act.put, List.setIfInBounds_toArray, List.set_cons_zero, List.set_cons_succ])
                    ((with_reducible apply V_run); rfl; (intro w M; go_simp; (try go_ints); (try simp only [↓IntWalk.iteOmega]); (try with_reducible rfl)); simp only [Act.put, List.setIfInBounds_toArray, List.set_cons_zero, List.set_cons_succ])
                    ((with_reducible apply V_run); rfl; (intro w M; exact run_loadCell M.r0 rfl HG.out Salg.underlying5 rfl); simp only [Act.put, List.setIfInBounds_toArray, List.set_cons_zero, List.set_cons_succ])
                    ((with_reducible apply V_run); rfl; (intro w M; go_simp; (try go_ints); (try simp only [↓IntWalk.iteOmega]); (try with_reducible rfl)); simp only [Act.put, List.setIfInBounds_toArray, List.set_cons_zero, List.set_cons_succ])
                    ((with_reducible apply V_run); rfl; (intro w M; go_simp; (try go_ints); (try simp only [↓IntWalk.iteOmega]); (try with_reducible rfl)); simp only [Act.put, List.setIfInBounds_toArray, List.set_cons_zero, List.set_cons_succ])
                    ((with_reducible apply V_run); rfl; (intro w M; go_simp; (try go_ints); (try simp only [↓IntWalk.iteOmega]); (try with_reducible rfl)); simp only [Act.put, List.setIfInBounds_toArray, List.set_cons_zero, List.set_cons_succ])
                    ((with_reducible apply V_run); rfl; (intro w M; go_simp; (try go_ints); (try simp only [↓IntWalk.iteOmega]); (try with_reducible rfl)); simp only [Act.put, List.setIfInBounds_toArray, List.set_cons_zero, List.set_cons_succ])
                    ((with_reducible apply V_run); rfl; (intro w M; go_simp; (try go_ints); (try simp only [↓IntWalk.iteOmega]); (try with_reducible rfl)); simp only [Act.put, List.setIfInBounds_toArray, List.set_cons_zero, List.set_cons_succ])
                    refine V_nil ?_
                    intro w4 M
                    refine S_seg 9 10 (by kernel_rfl) (by decide) ?_
                    simp only [List.take_succ_cons, List.take_zero, List.drop_zero, List.drop_succ_cons, Nat.sub_zero, Nat.reduceSub]
                    go_wp2_with ((with_reducible apply W_st8_0 (o := i / 8) (m := obN h (i / 8) (i % 8) + 2 ^ (i % 8))); rfl; rfl; exact HOR.out; exact M; exact hb10x; exact size5; exact hle; clear M; intro w5 M; rw [HY.out] at M)
                    refine S_done ?_
                    go_wp2_with fail
                    go_roundw
                    case rel => exact ⟨i + 1, by omega, by go_num, M⟩
                    case measure => simp [intOf]; omega
                · have e : i = 256 := by omega
                  subst e
                  have HLN := hid (ouL_len h 256)
                  have HON : Hid (∀ u ∈ ((ouL h 256).map n8).toArray.toList, u.oneCell' = true) := by
                    intro u hu
                    simp at hu
                    obtain ⟨x, _, rfl⟩ := hu
                    rfl
                  go_wp2_with (first
                    | ((with_reducible apply W_loadAll); rfl; exact M.r0; exact Salg.underlying22; rfl; (rw [size22]; simp [HLN.out]); simp only [Act.put, List.setIfInBounds_toArray, List.set_cons_zero, List.set_cons_succ])
                    | ((with_reducible apply W_storeK (b := b2) (vs := ((ouL h 256).map n8).toArray)); rfl; rfl; exact M.r3; exact size22; (simp [HLN.out]); exact HON.out; intro w6 K hr3; replace M := Mem.callPut (L1 := [_, _, _]) M (Or.inr hb2) K hr3; clear K hr3; simp only [List.cons_append, List.nil_append] at M))
                  exact ret_cell1 Salg.results177 rfl M.r3 Salg.underlying22 rfl (by rw [size22]; simp [HLN.out]) rfl ⟨by rw [HKS.out], M.kept⟩
end Go.Proofs.YgcsalGreat

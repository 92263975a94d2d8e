/-
  The accounts of an obs.World in a row; the walk of obs.WorldOK.
-/
import Derived.Test.YgcsalGreatMv13
set_option linter.unusedSimpArgs false
set_option linter.unusedVariables false
namespace Go.Own
structure Oa where
  adr : List Nat
  nonce : Nat
  bal : List Nat
  code : Value
def Oa.cells (p : Oa) : List Value := p.adr.map n8 ++ ([n64 p.nonce] ++ (p.bal.map n8 ++ [p.code, nilS]))
structure Oa.Ok (p : Oa) : Prop where
  ha : p.adr.length = 20
  hs : Small p.adr
  hb : p.bal.length = 32
  hbs : Small p.bal
  hc : ∃ q n cap, p.code = .slice q n cap ∧ n ≤ 256 ∧ (p.nonce ≠ 0 ∨ (p.nonce = 0 ∧ p.code = nilS ∧ p.bal ≠ List.replicate 32 0))
theorem Oa.Ok.len {p : Oa} (h : p.Ok) : p.cells.length = 55 := by simp [Oa.cells, h.ha, h.hb]
def oasL (l : List Oa) : List Value := l.flatMap Oa.cells
theorem oasL_get : ∀ {l : List Oa}, (∀ p ∈ l, p.Ok) → ∀ {i k : Nat} (hi : i < l.length), k < 55 → (oasL l)[i * 55 + k]? = l[i].cells[k]?
  | [], _, i, k, hi, _ => by simp at hi
  | p :: l, h, 0, k, _, hk => by
    have := (h p (by simp)).len
    simp only [oasL, List.flatMap_cons, Nat.zero_mul, Nat.zero_add, List.getElem_cons_zero]
    rw [List.getElem?_append_left (by omega)]
  | p :: l, h, i + 1, k, hi, hk => by
    have hl := (h p (by simp)).len
    simp only [oasL, List.flatMap_cons, List.getElem_cons_succ]
    rw [List.getElem?_append_right (by omega), show (i + 1) * 55 + k - p.cells.length = i * 55 + k by omega]
    exact oasL_get (fun q hq => h q (by simp [hq])) (by simpa using hi) hk
structure OasV (w : World) (v : Value) (l : List Oa) : Prop where
  own : w.ownsRow 0 123 55 v l.length (oasL l)
  ok : ∀ p ∈ l, p.Ok
theorem OasV.kept {w w' : World} {v : Value} {l : List Oa} (h : OasV w v l) (k : Kept [] w w') : OasV w' v l := ⟨own_kept h.own k, h.ok⟩
theorem OasV.row {w : World} {v : Value} {l : List Oa} (h : OasV w v l) (h0 : 0 < l.length) : ∃ g cap cur, v = .slice (some ⟨g, 0, none⟩) l.length cap ∧ w.heap[g]? = some (.cells cur 123 (0, 0)) ∧ l.length * 55 ≤ cur.size ∧ (∀ i k, (hi : i < l.length) → k < 55 → cur[i * 55 + k]? = l[i].cells[k]?) := by
  rcases h.own.2 with ⟨_, h1⟩ | ⟨g, cap, cur, h1, h2, h3, h4, h5, h6, h7⟩
  · omega
  · refine ⟨g, cap, cur, h1, h3, ?_, ?_⟩
    · rw [h6]; exact Nat.mul_le_mul_right 55 h4
    · intro i k hi hk
      rw [← oasL_get h.ok hi hk, ← h7, List.getElem?_take_of_lt]
      · simp
      · have := Nat.mul_le_mul_right 55 (show i + 1 ≤ l.length by omega)
        omega
theorem oa_adr {p : Oa} (h : p.Ok) {k x : Nat} (hx : p.adr[k]? = some x) : k < 20 ∧ p.cells[k]? = some (n8 x) := by
  have hk : k < p.adr.length := (List.getElem?_eq_some_iff.1 hx).1
  refine ⟨by rw [← h.ha]; exact hk, ?_⟩
  rw [Oa.cells, List.getElem?_append_left (by simpa using hk)]
  simp [hx]
theorem oa_bal {p : Oa} (h : p.Ok) {k x : Nat} (hx : p.bal[k]? = some x) : k < 32 ∧ p.cells[21 + k]? = some (n8 x) := by
  have hk : k < p.bal.length := (List.getElem?_eq_some_iff.1 hx).1
  refine ⟨by rw [← h.hb]; exact hk, ?_⟩
  rw [Oa.cells, List.getElem?_append_right (by simp [h.ha]; omega)]
  simp only [List.length_map, h.ha, show 21 + k - 20 = k + 1 by omega, List.singleton_append, List.getElem?_cons_succ]
  rw [List.getElem?_append_left (by simpa using hk)]
  simp [hx]
theorem oa_nonce {p : Oa} (h : p.Ok) : p.cells[20]? = some (n64 p.nonce) := by
  rw [Oa.cells, List.getElem?_append_right (by simp [h.ha])]
  simp [h.ha]
theorem oa_code {p : Oa} (h : p.Ok) : p.cells[53]? = some p.code ∧ p.cells[54]? = some nilS := by
  rw [Oa.cells]
  constructor
  · rw [List.getElem?_append_right (by simp [h.ha]), List.getElem?_append_right (by simp [h.ha]), List.getElem?_append_right (by simp [h.ha, h.hb])]
    simp [h.ha, h.hb]
  · rw [List.getElem?_append_right (by simp [h.ha]), List.getElem?_append_right (by simp [h.ha]), List.getElem?_append_right (by simp [h.ha, h.hb])]
    simp [h.ha, h.hb]
theorem extract_bytes {cs : Array Value} {o n : Nat} {l : List Nat} (hl : l.length = n) (hsz : o + n ≤ cs.size) (h : ∀ k x, l[k]? = some x → cs[o + k]? = some (n8 x)) : cs.extract o (o + n) = (l.map n8).toArray := by
  apply Array.ext_getElem?
  intro k
  rw [Array.getElem?_extract]
  by_cases hk : k < n
  · rw [if_pos (by omega)]
    have hkl : k < l.length := by omega
    rw [h k l[k] (List.getElem?_eq_getElem hkl)]
    simp [hkl]
  · rw [if_neg (by omega)]
    exact (Array.getElem?_eq_none (by simp; omega)).symm
theorem run_convAt {P : Program} {a : Act} {w : World} {dst : Option Tmp} {x : Operand} {s d e ty' : TypeId} {b o n cap : Nat} {t : TypeId} {cs : Array Value} {l : List Nat} {pos : String} {after : Array Edge} {g : Option (Nat × Bool)}
    (hx : a.eval x = .slice (some ⟨b, o, none⟩) n cap) (hr : w.heap[b]? = some (.cells cs t (0, 0))) (hcs : ∀ k x, l[k]? = some x → cs[o + k]? = some (n8 x)) (hs : Small l) (hn : l.length = n) (hus : P.underlying s = some (.slice e)) (hue : P.underlying e = some (.int .u8)) (hud : P.underlying d = some .string) :
    (execOp a.eval { dst := dst, op := .convert s d x, type := ty', pos := pos, after := after, guard := g }).run P w = .ok (.value (.string (str8 l))) w := by
  subst hn
  have h := run_convert_bytes_back (P := P) w s d e ⟨b, o, none⟩ cap (bts l) hus hue hud (by
    intro j hj
    have hj' : j < l.length := by simpa [bts] using hj
    have hc : (bts l)[j].toNat = l[j] := by
      simp only [bts, List.getElem_map]
      have := hs.get hj'
      simp [Nat.toUInt8, UInt8.toNat_ofNat', Nat.mod_eq_of_lt this]
    rw [hc]
    have hadd : (Addr.add ⟨b, o, none⟩ j) = ⟨b, o + j, none⟩ := by cases j <;> simp [Addr.add]
    simp [World.cell?, hadd, hr, hcs j l[j] (List.getElem?_eq_getElem hj')])
  have hl : (bts l).length = l.length := by simp [bts]
  rw [hl] at h
  simp [execOp, hx, h, str8]
end Go.Own
namespace Go.Proofs.YgcsalGreat
open Go.RowKit Go.Own

set_option maxHeartbeats 4000000 in
set_option maxRecDepth 100000 in
theorem accountOK_any (g o : Nat) (cs : Array Value) (p : Oa) (w : World) (hg : w.heap[g]? = some (.cells cs 123 (0, 0))) (hp : p.Ok) (hcs : ∀ k, k < 55 → cs[o + k]? = p.cells[k]?) (hsz : o + 55 ≤ cs.size) :
    Calls Salg.prog 208 #[.pointer (some ⟨g, o, none⟩)] w fun e w' => e = .returned (.bool true) ∧ w' = w := by
  obtain ⟨q, n, cap, hc, hn, h⟩ := hp.hc
  have h20 := (hcs 20 (by decide)).trans (oa_nonce hp)
  have h53 := (hcs 53 (by decide)).trans (oa_code hp).1
  have h54 := (hcs 54 (by decide)).trans (oa_code hp).2
  rcases h with h | ⟨h1, h2, h3⟩
  · rw [hc] at h53
    exact accountOK_nonce g o 123 p.nonce n cap q cs w hg h20 h53 h54 h hn
  · rw [h1] at h20
    rw [h2] at h53
    refine accountOK_bal g o 123 cs p.bal w hg h20 h53 h54 hp.hb (extract_bytes hp.hb (by omega) ?_) hsz h3
    intro k x hx
    have := oa_bal hp hx
    rw [Nat.add_assoc, hcs (21 + k) (by omega)]
    exact this.2

set_option maxHeartbeats 4000000 in
set_option maxRecDepth 100000 in
theorem worldOK_any (v : Value) (l : List Oa) (w : World) (hv : OasV w v l) (h0 : 0 < l.length) (h8 : l.length ≤ 8) (hso : ∀ i (hi : i + 1 < l.length), adLt l[i].adr l[i + 1].adr = true) (hz : ∀ i (hi : i + 1 < l.length), l[i].bal = List.replicate 32 0) :
    Calls Salg.prog 159 #[v] w fun e w' => e = .returned (.bool true) ∧ Kept [] w w' := by
  have M := Mem.start w []
  obtain ⟨g, cap, cur, rfl, hrg, hsz, hcl⟩ := hv.row h0
  have HOK := hid hv.ok
  have HCL := hid hcl
  have HSO := hid hso
  have HZ := hid hz
  clear hv hcl hso hz
  obtain ⟨n, hn⟩ : ∃ n, n = l.length := ⟨_, rfl⟩
  have HN := hid hn
  rw [← hn] at h0 h8 hsz ⊢
  clear hn
  have hgw : g < w.heap.size := lt_of_row hrg
  have d8 : decide ((8 : Int) < (n : Int)) = false := by simp; omega
  have d9 : decide (8 < n) = false := by simp; omega
  go_enter Salg.func159, Salg.ntmps159
  go_wp2_with ((with_reducible apply L_allocA (d := 3) M); exact zero46; clear M; intro c1 w1 hc1 M; simp only [Act.put, List.setIfInBounds_toArray, List.set_cons_zero, List.set_cons_succ])
  have hgc : g ≠ c1 := by omega
  go_loopw [4, 10] (fun _ iv wr => ∃ (i : Nat) (sm : List Nat), i ≤ n ∧ iv = .int .i64 i ∧ (i < n → sm = List.replicate 32 0) ∧ Mem w [] [(c1, R8 46 sm)] wr) (fun _ iv _ => (n - intOf iv).toNat)
  case atStart => exact ⟨0, List.replicate 32 0, by omega, rfl, fun _ => rfl, M⟩
  case round =>
    clear M
    obtain ⟨i, sm, hi, rfl, hsm, M⟩ := hrel
    rcases Nat.lt_or_ge i n with hlt | hge
    · have hs0 := hsm hlt
      subst hs0
      have hil : i < l.length := by rw [← HN.out]; exact hlt
      have hpo := HOK.out l[i] (List.getElem_mem hil)
      have hszi : i * 55 + 55 ≤ cur.size := by have := Nat.mul_le_mul_right 55 (show i + 1 ≤ n by omega); omega
      have HAO := hid (fun w' (h : w'.heap[g]? = some (.cells cur 123 (0, 0))) => accountOK_any g (i * 55) cur l[i] w' h hpo (fun k hk => HCL.out i k hil hk) hszi)
      have HAT := hid (fun w' (h1 : w'.heap[c1]? = some (R8 46 (List.replicate 32 0))) (h2 : w'.heap[g]? = some (.cells cur 123 (0, 0))) => addTo_zero c1 g (i * 55 + 21) 123 cur l[i].bal w' h1 h2 hgc hpo.hb hpo.hbs (fun k x hx => by
        have := oa_bal hpo hx
        rw [Nat.add_assoc, HCL.out i (21 + k) hil (by omega)]
        exact this.2))
      have HNX : Hid (i + 1 < n → l[i].bal = List.replicate 32 0) := fun h => HZ.out i (by rw [← HN.out]; exact h)
      have hb32 := hpo.hb
      clear hsm
      rcases Nat.eq_zero_or_pos i with hi0 | hipos
      · subst hi0
        generalize l[0] = p at *
        go_wp2_with fail
        refine S_region (by kernel_rfl) ?_
        refine V_quiet 0 18 (by kernel_rfl) (by decide) M.drew ?_
        clear M
        simp only [List.take_succ_cons, List.take_zero, List.drop_zero, List.drop_succ_cons, Nat.sub_zero, Nat.reduceSub]
        ((with_reducible apply V_run); rfl; (intro w M; go_simp; (try go_ints); (try simp only [↓IntWalk.iteOmega]); (try with_reducible rfl)); simp only [Act.put, List.setIfInBounds_toArray, List.set_cons_zero, List.set_cons_succ])
        ((with_reducible apply V_run); rfl; (intro w M; go_simp; (try go_ints); (try simp only [↓IntWalk.iteOmega]); (try with_reducible rfl)); simp only [Act.put, List.setIfInBounds_toArray, List.set_cons_zero, List.set_cons_succ])
        ((with_reducible apply V_run); rfl; (intro w M; go_simp; (try go_ints); (try simp only [↓IntWalk.iteOmega]); (try with_reducible rfl)); simp only [Act.put, List.setIfInBounds_toArray, List.set_cons_zero, List.set_cons_succ])
        ((with_reducible apply V_no); rfl; simp only [Act.put, List.setIfInBounds_toArray, List.set_cons_zero, List.set_cons_succ])
        ((with_reducible apply V_no); rfl; simp only [Act.put, List.setIfInBounds_toArray, List.set_cons_zero, List.set_cons_succ])
        ((with_reducible apply V_no); rfl; simp only [Act.put, List.setIfInBounds_toArray, List.set_cons_zero, List.set_cons_succ])
        ((with_reducible apply V_no); rfl; simp only [Act.put, List.setIfInBounds_toArray, List.set_cons_zero, List.set_cons_succ])
        ((with_reducible apply V_no); rfl; simp only [Act.put, List.setIfInBounds_toArray, List.set_cons_zero, List.set_cons_succ])
        ((with_reducible apply V_no); rfl; simp only [Act.put, List.setIfInBounds_toArray, List.set_cons_zero, List.set_cons_succ])
        ((with_reducible apply V_no); rfl; simp only [Act.put, List.setIfInBounds_toArray, List.set_cons_zero, List.set_cons_succ])
        ((with_reducible apply V_no); rfl; simp only [Act.put, List.setIfInBounds_toArray, List.set_cons_zero, List.set_cons_succ])
        ((with_reducible apply V_no); rfl; simp only [Act.put, List.setIfInBounds_toArray, List.set_cons_zero, List.set_cons_succ])
        ((with_reducible apply V_no); rfl; simp only [Act.put, List.setIfInBounds_toArray, List.set_cons_zero, List.set_cons_succ])
        ((with_reducible apply V_no); rfl; simp only [Act.put, List.setIfInBounds_toArray, List.set_cons_zero, List.set_cons_succ])
        ((with_reducible apply V_no); rfl; simp only [Act.put, List.setIfInBounds_toArray, List.set_cons_zero, List.set_cons_succ])
        ((with_reducible apply V_no); rfl; simp only [Act.put, List.setIfInBounds_toArray, List.set_cons_zero, List.set_cons_succ])
        ((with_reducible apply V_no); rfl; simp only [Act.put, List.setIfInBounds_toArray, List.set_cons_zero, List.set_cons_succ])
        ((with_reducible apply V_run); rfl; (intro w M; go_simp; (try go_ints); (try simp only [↓IntWalk.iteOmega]); (try with_reducible rfl)); simp only [Act.put, List.setIfInBounds_toArray, List.set_cons_zero, List.set_cons_succ])
        refine V_nil ?_
        intro w4 M
        refine S_done ?_
        go_wp2_with fail
        refine (HAO.out _ (M.kept.row hrg (by simp))).mono ?_
        rintro e w5 ⟨rfl, rfl⟩
        go_wp2_with fail
        refine (HAT.out _ M.r0 (M.kept.row hrg (by simp))).mono ?_
        rintro e w6 ⟨rfl, K, hr6⟩
        replace M := Mem.callPut (L1 := []) M (Or.inr hc1) K hr6
        simp only [List.nil_append] at M
        clear K hr6
        go_wp2_with fail
        go_roundw
        case rel => exact ⟨0 + 1, p.bal, by omega, by go_num, fun h => HNX.out h, M⟩
        case measure => simp [intOf]; omega
      · obtain ⟨j, rfl⟩ : ∃ j, i = j + 1 := ⟨i - 1, by omega⟩
        have hjl : j < l.length := by omega
        have hqo := HOK.out l[j] (List.getElem_mem hjl)
        have HLT := hid (HSO.out j hil)
        have HCJ : Hid (∀ k x, l[j].adr[k]? = some x → cur[j * 55 + k]? = some (n8 x)) := fun k x hx => by
          have := oa_adr hqo hx
          rw [HCL.out j k hjl (by omega)]
          exact this.2
        have HCI : Hid (∀ k x, l[j + 1].adr[k]? = some x → cur[(j + 1) * 55 + k]? = some (n8 x)) := fun k x hx => by
          have := oa_adr hpo hx
          rw [HCL.out (j + 1) k hil (by omega)]
          exact this.2
        have HQS := hid hqo.hs
        have HPS := hid hpo.hs
        have hq20 := hqo.ha
        have hp20 := hpo.ha
        clear hqo
        generalize l[j + 1] = p at *
        generalize l[j] = q at *
        have d3 : decide ((j : Int) + 1 < (n : Int)) = true := by simp; omega
        have HBL : Hid (Op.bytesLess (str8 q.adr).toList (str8 p.adr).toList = true) := by show _ = _; rw [toList_str, toList_str]; exact HLT.out
        go_wp2_with fail
        refine S_region (by kernel_rfl) ?_
        refine V_quiet 0 18 (by kernel_rfl) (by decide) M.drew ?_
        clear M
        simp only [List.take_succ_cons, List.take_zero, List.drop_zero, List.drop_succ_cons, Nat.sub_zero, Nat.reduceSub]
        ((with_reducible apply V_run); rfl; (intro w M; go_simp; (try go_ints); (try simp only [↓IntWalk.iteOmega]); (try with_reducible rfl)); simp only [Act.put, List.setIfInBounds_toArray, List.set_cons_zero, List.set_cons_succ])
        ((with_reducible apply V_run); rfl; (intro w M; go_simp; (try go_ints); (try simp only [↓IntWalk.iteOmega]); (try with_reducible rfl)); simp only [Act.put, List.setIfInBounds_toArray, List.set_cons_zero, List.set_cons_succ])
        ((with_reducible apply V_run); rfl; (intro w M; go_simp; (try go_ints); (try simp only [↓IntWalk.iteOmega]); (try with_reducible rfl)); simp only [Act.put, List.setIfInBounds_toArray, List.set_cons_zero, List.set_cons_succ])
        ((with_reducible apply V_run); rfl; (intro w M; go_simp; (try go_ints); (try simp only [↓IntWalk.iteOmega]); (try with_reducible rfl)); simp only [Act.put, List.setIfInBounds_toArray, List.set_cons_zero, List.set_cons_succ])
        ((with_reducible apply V_run); rfl; (intro w M; go_simp; (try go_ints); (try simp only [↓IntWalk.iteOmega]); (try with_reducible rfl)); simp only [Act.put, List.setIfInBounds_toArray, List.set_cons_zero, List.set_cons_succ])
        ((with_reducible apply V_run); rfl; (intro w M; go_simp; (try go_ints); (try simp only [↓IntWalk.iteOmega]); (try with_reducible rfl)); simp only [Act.put, List.setIfInBounds_toArray, List.set_cons_zero, List.set_cons_succ])
        ((with_reducible apply V_run); rfl; (intro w M; go_simp; (try go_ints); (try simp only [↓IntWalk.iteOmega]); (try with_reducible rfl)); simp only [Act.put, List.setIfInBounds_toArray, List.set_cons_zero, List.set_cons_succ])
        ((with_reducible apply V_run); rfl; (intro w M; go_simp; (try go_ints); (try simp only [↓IntWalk.iteOmega]); (try with_reducible rfl)); simp only [Act.put, List.setIfInBounds_toArray, List.set_cons_zero, List.set_cons_succ])
        ((with_reducible apply V_run); rfl; (intro w M; exact run_sliceArr (l := 0) (h := 20) (m := 20) rfl Salg.underlying45 size5 (by (first | exact Or.inl ⟨rfl, rfl⟩ | exact Or.inr ⟨_, _, _, rfl, rfl, by omega⟩)) (by (first | exact Or.inl ⟨rfl, rfl⟩ | exact Or.inr ⟨_, _, _, rfl, rfl, by omega⟩)) (by (first | exact Or.inl ⟨rfl, rfl⟩ | exact Or.inr ⟨_, _, _, rfl, rfl, by omega⟩)) (by first | exact Or.inl rfl | exact Or.inr rfl) (by omega) (by omega) (by omega) (by omega)); (try simp only [Nat.zero_add, Nat.sub_zero]); simp only [Act.put, List.setIfInBounds_toArray, List.set_cons_zero, List.set_cons_succ])
        ((with_reducible apply V_run); rfl; (intro w M; exact run_convAt rfl (M.kept.row hrg (by simp)) HCJ.out HQS.out hq20 Salg.underlying40 Salg.underlying5 Salg.underlying9); simp only [Act.put, List.setIfInBounds_toArray, List.set_cons_zero, List.set_cons_succ])
        ((with_reducible apply V_run); rfl; (intro w M; go_simp; (try go_ints); (try simp only [↓IntWalk.iteOmega]); (try with_reducible rfl)); simp only [Act.put, List.setIfInBounds_toArray, List.set_cons_zero, List.set_cons_succ])
        ((with_reducible apply V_run); rfl; (intro w M; go_simp; (try go_ints); (try simp only [↓IntWalk.iteOmega]); (try with_reducible rfl)); simp only [Act.put, List.setIfInBounds_toArray, List.set_cons_zero, List.set_cons_succ])
        ((with_reducible apply V_run); rfl; (intro w M; go_simp; (try go_ints); (try simp only [↓IntWalk.iteOmega]); (try with_reducible rfl)); simp only [Act.put, List.setIfInBounds_toArray, List.set_cons_zero, List.set_cons_succ])
        ((with_reducible apply V_run); rfl; (intro w M; go_simp; (try go_ints); (try simp only [↓IntWalk.iteOmega]); (try with_reducible rfl)); simp only [Act.put, List.setIfInBounds_toArray, List.set_cons_zero, List.set_cons_succ])
        ((with_reducible apply V_run); rfl; (intro w M; exact run_sliceArr (l := 0) (h := 20) (m := 20) rfl Salg.underlying45 size5 (by (first | exact Or.inl ⟨rfl, rfl⟩ | exact Or.inr ⟨_, _, _, rfl, rfl, by omega⟩)) (by (first | exact Or.inl ⟨rfl, rfl⟩ | exact Or.inr ⟨_, _, _, rfl, rfl, by omega⟩)) (by (first | exact Or.inl ⟨rfl, rfl⟩ | exact Or.inr ⟨_, _, _, rfl, rfl, by omega⟩)) (by first | exact Or.inl rfl | exact Or.inr rfl) (by omega) (by omega) (by omega) (by omega)); (try simp only [Nat.zero_add, Nat.sub_zero]); simp only [Act.put, List.setIfInBounds_toArray, List.set_cons_zero, List.set_cons_succ])
        ((with_reducible apply V_run); rfl; (intro w M; exact run_convAt rfl (M.kept.row hrg (by simp)) HCI.out HPS.out hp20 Salg.underlying40 Salg.underlying5 Salg.underlying9); simp only [Act.put, List.setIfInBounds_toArray, List.set_cons_zero, List.set_cons_succ])
        ((with_reducible apply V_run); rfl; (intro w M; go_simp; (try go_ints); (try simp only [↓IntWalk.iteOmega]); (try with_reducible rfl)); simp only [Act.put, List.setIfInBounds_toArray, List.set_cons_zero, List.set_cons_succ])
        (try simp only [HBL.out, Bool.not_true])
        ((with_reducible apply V_run); rfl; (intro w M; go_simp; (try go_ints); (try simp only [↓IntWalk.iteOmega]); (try with_reducible rfl)); simp only [Act.put, List.setIfInBounds_toArray, List.set_cons_zero, List.set_cons_succ])
        refine V_nil ?_
        intro w4 M
        refine S_done ?_
        go_wp2_with fail
        refine (HAO.out _ (M.kept.row hrg (by simp))).mono ?_
        rintro e w5 ⟨rfl, rfl⟩
        go_wp2_with fail
        refine (HAT.out _ M.r0 (M.kept.row hrg (by simp))).mono ?_
        rintro e w6 ⟨rfl, K, hr6⟩
        replace M := Mem.callPut (L1 := []) M (Or.inr hc1) K hr6
        simp only [List.nil_append] at M
        clear K hr6
        go_wp2_with fail
        go_roundw
        case rel => exact ⟨j + 1 + 1, p.bal, by omega, by go_num, fun h => HNX.out h, M⟩
        case measure => simp [intOf]; omega

    · have hin : i = n := by omega
      subst hin
      go_wp2_with fail
      go_ret
      exact ⟨rfl, M.kept⟩
end Go.Proofs.YgcsalGreat

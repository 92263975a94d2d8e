/-
  The walk of law.natWord.
-/
import Derived.Test.YgcsalPlainK
import Derived.Test.YgcsalLaws2
set_option linter.unusedSimpArgs false
namespace Go.Proofs.Ygcsal
open Go.RowKit Go.Own

set_option maxHeartbeats 4000000 in
set_option maxRecDepth 100000 in
theorem natWord_any (v : Value) (N : Nat) (w : World) (hN : NumV w v N) (hb : N < 256 ^ 32) :
    Calls Salg.prog 59 #[v] w fun e w' => e = .returned (A64 (nl 4 N)) ∧ Kept [] w w' := by
  have M := Mem.start w []
  obtain ⟨ds, hnv, rfl, hdl⟩ := hN.short hb
  obtain ⟨p, c, rfl, hc, hc', hd, hs⟩ := hnv
  have HD := hid hd
  have HS := hid hs
  have HNL : Hid (∀ l : List Nat, l.length = 4 → Limbs l → lval l = val ds → l = nl 4 (val ds)) := fun l h1 h2 h3 => eq_nl h2 h1 h3
  clear hN hb hd hs
  obtain ⟨n, hn⟩ : ∃ n, n = ds.length := ⟨_, rfl⟩
  rw [← hn] at hc hdl ⊢
  go_enter Salg.func59, Salg.ntmps59
  go_wp2_with (first
    | ((with_reducible apply L_allocA (d := 2) M); exact zero25; clear M; intro b1 w1 hb1 M; simp only [Act.put, List.setIfInBounds_toArray, List.set_cons_zero, List.set_cons_succ])
    | ((with_reducible apply L_allocA (d := 3) M); exact zero25; clear M; intro b2 w1 hb2 M; simp only [Act.put, List.setIfInBounds_toArray, List.set_cons_zero, List.set_cons_succ]))
  go_loopw [4] (fun iv wr => ∃ (i : Nat) (l : List Nat), i ≤ n ∧ iv = .int .i64 i ∧ l.length = 4 ∧ Limbs l ∧ lval l = val (ds.take i) ∧ Mem w [] [(b2, R64 25 l), (b1, R64 25 [0, 0, 0, 0])] wr) (fun iv _ => n - (intOf iv).toNat)
  case atStart => exact ⟨0, [0, 0, 0, 0], by omega, rfl, rfl, by intro x hx; simp at hx; omega, rfl, M⟩
  case round =>
    clear M
    obtain ⟨i, l, hi, rfl, hl, hL, hv, M⟩ := hrel
    have HL := hid hL
    have HV := hid hv
    clear hL hv
    by_cases hin : i = n
    · subst hin
      have HE : Hid (l = nl 4 (val ds)) := HNL.out l hl HL.out (by rw [HV.out, List.take_of_length_le (by omega)])
      have d1 : decide ((i : Int) < (i : Int)) = false := by simp
      have d2 : decide (i < i) = false := by simp
      clear HNL HV HL HD HS
      go_wp2_with (first
        | ((with_reducible apply W_loadAll); rfl; (first | with_reducible exact M.r0 | with_reducible exact M.r1 | with_reducible exact M.r2 | with_reducible exact M.r3 | with_reducible exact M.r4 | with_reducible exact M.r5 | with_reducible exact M.r6 | assumption | exact M.kept.row (by assumption) (by simp)); exact Salg.underlying25; rfl; (first | with_reducible exact size25 | (rw [size25]; simp [hl])); simp only [Act.put, List.setIfInBounds_toArray, List.set_cons_zero, List.set_cons_succ])
        | ((with_reducible apply W_storeK (b := b1)); rfl; rfl; exact M.r1; exact size25; (simp [hl]); exact one64 _; intro w3 K hr3; replace M := Mem.callPut (L1 := [_]) M (Or.inr (by assumption)) K hr3; clear K hr3; simp only [List.cons_append, List.nil_append] at M))
      exact ret_cell1 Salg.results59 rfl M.r1 Salg.underlying25 rfl (by rw [size25]; simp [hl]) rfl ⟨by rw [← HE.out], M.kept⟩
    · have hi2 : i < n := by omega
      have hid2 : i < ds.length := by omega
      obtain ⟨b, t, cs, rfl, hr, hpre⟩ := HD.out.at hid2
      have hgd : cs[i]? = some ds[i] := pre_get hpre hid2
      have hd8 : ds[i] < 256 := HS.out _ (List.getElem_mem hid2)
      have hj : i / 8 < l.length := by omega
      have hgl : l[i / 8]? = some l[i / 8] := List.getElem?_eq_getElem hj
      have hlt : lval l < 256 ^ i := by
        rw [HV.out]
        have := val_lt (HS.out.take i)
        rwa [List.length_take, Nat.min_eq_left (by omega)] at this
      have HY := hid (lay hj hlt hd8)
      have HTK : Hid (val (ds.take (i + 1)) = lval l + 256 ^ i * ds[i]) := by show _ = _; rw [val_take_succ hid2, HV.out]
      have hr' : ∀ w', Mem w [] [(b2, R64 25 l), (b1, R64 25 [0, 0, 0, 0])] w' → w'.heap[b]? = some (R8 t cs) := fun w' M => M.kept.row hr (by simp)
      have HRB := hid hr'
      have hlb : l[i / 8] < 18446744073709551616 := HL.out.get hj
      clear HV hlt hr hpre hr'
      generalize ds[i] = d at *
      generalize l[i / 8] = x at *
      go_wp2_with fail
      refine S_region (by kernel_rfl) ?_
      refine V_quiet 0 15 (by kernel_rfl) (by decide) M.drew ?_
      clear M
      simp only [List.take_succ_cons, List.take_zero, List.drop_zero, List.drop_succ_cons, Nat.sub_zero, Nat.reduceSub]
      ((with_reducible apply V_run); rfl; (intro w M; go_simp; (try go_ints); (try simp only [↓IntWalk.iteOmega]); (try with_reducible rfl)); simp only [Act.put, List.setIfInBounds_toArray, List.set_cons_zero, List.set_cons_succ])
      ((with_reducible apply V_run); rfl; (intro w M; go_simp; (try go_ints); (try simp only [↓IntWalk.iteOmega]); (try with_reducible rfl)); simp only [Act.put, List.setIfInBounds_toArray, List.set_cons_zero, List.set_cons_succ])
      ((with_reducible apply V_run); rfl; (intro w M; go_simp; (try go_ints); (try simp only [↓IntWalk.iteOmega]); (try with_reducible rfl)); simp only [Act.put, List.setIfInBounds_toArray, List.set_cons_zero, List.set_cons_succ])
      ((with_reducible apply V_run); rfl; (intro w M; exact run_loadCell (by (first | with_reducible exact M.r0 | with_reducible exact M.r1 | with_reducible exact M.r2 | with_reducible exact M.r3 | with_reducible exact M.r4 | with_reducible exact M.r5 | with_reducible exact M.r6 | assumption | exact M.kept.row (by assumption) (by simp))) rfl (by (first | exact get_map (by assumption) | exact get_map rfl | rfl)) Salg.underlying23 rfl); simp only [Act.put, List.setIfInBounds_toArray, List.set_cons_zero, List.set_cons_succ])
      ((with_reducible apply V_run); rfl; (intro w M; go_simp; (try go_ints); (try simp only [↓IntWalk.iteOmega]); (try with_reducible rfl)); simp only [Act.put, List.setIfInBounds_toArray, List.set_cons_zero, List.set_cons_succ])
      ((with_reducible apply V_run); rfl; (intro w M; go_simp; (try go_ints); (try simp only [↓IntWalk.iteOmega]); (try with_reducible rfl)); simp only [Act.put, List.setIfInBounds_toArray, List.set_cons_zero, List.set_cons_succ])
      ((with_reducible apply V_run); rfl; (intro w M; go_simp; (try go_ints); (try simp only [↓IntWalk.iteOmega]); (try with_reducible rfl)); simp only [Act.put, List.setIfInBounds_toArray, List.set_cons_zero, List.set_cons_succ])
      ((with_reducible apply V_run); rfl; (intro w M; exact run_loadCell (HRB.out w M) rfl (by (first | exact get_map (by assumption) | exact get_map rfl | rfl)) Salg.underlying5 rfl); simp only [Act.put, List.setIfInBounds_toArray, List.set_cons_zero, List.set_cons_succ])
      ((with_reducible apply V_run); rfl; (intro w M; go_simp; (try go_ints); (try simp only [↓IntWalk.iteOmega]); (try with_reducible rfl)); simp only [Act.put, List.setIfInBounds_toArray, List.set_cons_zero, List.set_cons_succ])
      ((with_reducible apply V_run); rfl; (intro w M; go_simp; (try go_ints); (try simp only [↓IntWalk.iteOmega]); (try with_reducible rfl)); simp only [Act.put, List.setIfInBounds_toArray, List.set_cons_zero, List.set_cons_succ])
      ((with_reducible apply V_run); rfl; (intro w M; go_simp; (try go_ints); (try simp only [↓IntWalk.iteOmega]); (try with_reducible rfl)); simp only [Act.put, List.setIfInBounds_toArray, List.set_cons_zero, List.set_cons_succ])
      ((with_reducible apply V_run); rfl; (intro w M; go_simp; (try go_ints); (try simp only [↓IntWalk.iteOmega]); (try with_reducible rfl)); simp only [Act.put, List.setIfInBounds_toArray, List.set_cons_zero, List.set_cons_succ])
      ((with_reducible apply V_run); rfl; (intro w M; go_simp; (try go_ints); (try simp only [↓IntWalk.iteOmega]); (try with_reducible rfl)); simp only [Act.put, List.setIfInBounds_toArray, List.set_cons_zero, List.set_cons_succ])
      ((with_reducible apply V_run); rfl; (intro w M; go_simp; (try go_ints); (try simp only [↓IntWalk.iteOmega]); (try with_reducible rfl)); simp only [Act.put, List.setIfInBounds_toArray, List.set_cons_zero, List.set_cons_succ])
      ((with_reducible apply V_run); rfl; (intro w M; go_simp; (try go_ints); (try simp only [↓IntWalk.iteOmega]); (try with_reducible rfl)); simp only [Act.put, List.setIfInBounds_toArray, List.set_cons_zero, List.set_cons_succ])
      refine V_nil ?_
      intro w4 M
      refine S_seg 15 16 (by kernel_rfl) (by decide) ?_
      simp only [List.take_succ_cons, List.take_zero, List.drop_zero, List.drop_succ_cons, Nat.sub_zero, Nat.reduceSub]
      have hval : bits .or .u64 (x : Int) (IntKind.u64.wrap ((d : Int) * 2 ^ (8 * (i % 8)))) = ((x + d * 2 ^ (8 * (i % 8)) : Nat) : Int) := by
        rw [wrap_shl, Nat.mod_eq_of_lt HY.out.2.2.1, bits_or_u64_nat _ _ hlb HY.out.2.2.1, HY.out.1]
      have HLV := hid hval
      clear hval
      go_wp2_with ((with_reducible apply W_st64K (b := b2) (o := i / 8) (m := x + d * 2 ^ (8 * (i % 8)))); rfl; rfl; exact HLV.out; exact M.r0; exact size23; omega; intro w3 K hr3; replace M := Mem.callPut (L1 := []) M (Or.inr (by assumption)) K hr3; clear K hr3; simp only [List.cons_append, List.nil_append] at M)
      refine S_done ?_
      go_wp2_with fail
      go_roundw
      case rel => exact ⟨i + 1, l.set (i / 8) (x + d * 2 ^ (8 * (i % 8))), by omega, by go_num, by simp [hl], HL.out.set HY.out.2.1, by rw [HY.out.2.2.2, HTK.out], M⟩
      case measure => simp [intOf]; omega
end Go.Proofs.Ygcsal

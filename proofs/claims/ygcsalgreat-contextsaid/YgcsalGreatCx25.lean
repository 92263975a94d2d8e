/-
  put by what the account holds; the walk of yp.deposit.
-/
import Derived.Test.YgcsalGreatCx24
import Derived.Test.YgcsalGreatCp5
set_option linter.unusedSimpArgs false
set_option linter.unusedVariables false
namespace Go.Proofs.YgcsalGreat
open Go.RowKit Go.Own
theorem put_D (c : Nat) (cs : Array Value) (va nv bv cu : Value) (N B : Nat) (ds : List Nat) (D : List AD) (a : List Nat) (w : World) (hr : w.heap[c]? = some (.cells cs 119 (0, 0))) (hnb : ∀ t l, Obj.cells cs 119 (0, 0) ≠ R8 t l) (h0 : cs[0]? = some va) (hv : AccD D w va) (ha : a.length = 20) (hsa : Small a) (hN : NumV w nv N) (hB : NumV w bv B) (hC : NatV w cu ds) (hN0 : N ≠ 0) (hll : D.length ≤ 400) :
    Calls Salg.prog 166 #[.pointer (some ⟨c, 0, none⟩), .agg (⟨a, [nv, bv, cu, nilS]⟩ : Ac).cells.toArray] w fun e w' => ∃ r v', e = .returned r ∧ Kept [c] w w' ∧ w'.heap[c]? = some (.cells (cs.setIfInBounds 0 v') 119 (0, 0)) ∧ AccD (dPut ⟨a, N, B, ds⟩ false D) w' v' := by
  obtain ⟨l, h1, h2⟩ := hv
  refine (put_any c 119 cs va nv N l ⟨a, [nv, bv, cu, nilS]⟩ w hr h0 h1 ⟨ha, rfl, ?_, hsa⟩ rfl hN hN0 (by rw [h2.len]; exact hll) (by decide)).mono ?_
  · intro u hu
    simp only [List.mem_cons, List.not_mem_nil, or_false] at hu
    rcases hu with rfl | rfl | rfl | rfl
    · exact hN.one
    · exact hB.one
    · exact hC.one
    · rfl
  · rintro e w' ⟨r, v', rfl, K, k1, k2⟩
    refine ⟨r, v', rfl, K, k1, _, k2, ?_⟩
    have hX := hard1 hr (.inl rfl) hnb
    have hq : AcD w ⟨a, [nv, bv, cu, nilS]⟩ ⟨a, N, B, ds⟩ := ⟨rfl, nv, bv, cu, rfl, hN, hB, hC⟩
    exact (h2.put hq false).keptN K hX

set_option maxHeartbeats 4000000 in
set_option maxRecDepth 100000 in
theorem deposit_ok (t6 b cp t : Nat) (fc cs : Array Value) (gv : Value) (G : Nat) (w : World) (hr : w.heap[t6]? = some (.cells fc 142 (0, 0))) (h4 : fc[4]? = some gv) (hg : NumV w gv G) (hb : w.heap[b]? = some (.cells cs t (0, 0))) (h0 : cs[0]? = some (n8 0)) (hG : 25600 ≤ G) (hG2 : G < 256 ^ 100) :
    Calls Salg.prog 185 #[.pointer (some ⟨t6, 0, none⟩), .slice (some ⟨b, 0, none⟩) 128 cp] w fun e w' => ∃ rest, e = .returned (.tuple #[rest, .int .u8 0]) ∧ NumV w' rest (G - 25600) ∧ Kept [] w w' := by
  have M := Mem.start w []
  have HG := hid hg
  have HR := hid hr
  have HB := hid hb
  have hG3 : G < 256 ^ 200 := Nat.lt_of_lt_of_le hG2 (by decide)
  clear hg hr hb
  go_enter Salg.func185, Salg.ntmps185
  go_wp2_with fail
  refine (num_int _ 200 rfl (by decide) _).mono ?_
  rintro e w1 ⟨pa, rfl, xHPA, K⟩
  have HPA := hid xHPA
  replace M := M.call K
  clear K xHPA
  go_wp2_with fail
  refine (num_int _ 128 rfl (by decide) _).mono ?_
  rintro e w2 ⟨pb, rfl, xHPB, K⟩
  have HPB := hid xHPB
  replace HPA := hid (HPA.out.kept K)
  replace M := M.call K
  clear K xHPB
  go_wp2_with fail
  refine (mul_num pa pb 200 128 _ HPA.out HPB.out (by decide) (by decide)).mono ?_
  rintro e w3 ⟨pc, rfl, xHPC, K⟩
  have HPC := hid xHPC
  replace M := M.call K
  clear K xHPC
  go_wp2_with (first
    | ((with_reducible apply W_loadCellG); rfl; rfl; exact M.kept.row HB.out (by simp); exact h0; exact Salg.underlying5; rfl; simp only [Act.put, List.setIfInBounds_toArray, List.set_cons_zero, List.set_cons_succ])
    | ((with_reducible apply W_loadCell); rfl; exact M.kept.row HR.out (by simp); exact h4; exact Salg.underlying89; rfl; simp only [Act.put, List.setIfInBounds_toArray, List.set_cons_zero, List.set_cons_succ]))
  refine (cmp_le pc gv 25600 G hG _ HPC.out (HG.out.kept M.kept)).mono ?_
  rintro e w4 ⟨r, rfl, hrr, K⟩
  replace M := M.call K
  replace HPC := hid (HPC.out.kept K)
  clear K
  have dr : decide (0 < r) = false := by simp; omega
  go_wp2_with ((with_reducible apply W_loadCell); rfl; exact M.kept.row HR.out (by simp); exact h4; exact Salg.underlying89; rfl; simp only [Act.put, List.setIfInBounds_toArray, List.set_cons_zero, List.set_cons_succ])
  refine (less_any gv pc G 25600 _ (HG.out.kept M.kept) HPC.out hG3 hG).mono ?_
  rintro e w5 ⟨re, rfl, hre, K⟩
  replace M := M.call K
  have HRE := hid hre
  clear K hre
  go_wp2_with fail
  go_ret2
  exact ⟨_, rfl, HRE.out, M.kept⟩
end Go.Proofs.YgcsalGreat

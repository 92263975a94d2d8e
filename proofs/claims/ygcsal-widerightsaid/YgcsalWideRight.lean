/-
  law.WideRight: the walk.
-/
import Derived.Test.YgcsalRow
import Derived.Test.YgcsalRem
import Derived.Test.YgcsalHoist
import Derived.Test.YgcsalPlainL
set_option linter.unusedSimpArgs false
namespace Go.Own
section
variable {P : Program} {ops : List Oper} {Q : Exit → Act → World → Prop} {a : Act} {w : World}
theorem S_call {i : Nat} {K : Act → World → Prop} {dst : Option Tmp} {f : FuncId} {xs : List Operand} {ats : Array TypeId} {ty : TypeId} {pos : String} {after : Array Edge} {fn : Func} {args : List Value}
    (ho : ops[i]? = some { dst := dst, op := .call { callee := .value (.func f), args := xs.toArray, argTypes := ats }, type := ty, pos := pos, after := after, guard := none })
    (hfn : P.funcs[f]? = some fn) (hn : (fn.name == "runtime.NumGoroutine") = false) (hb : fn.body.isNone = false) (hargs : xs.map a.eval = args)
    (hc : Calls P f args.toArray w fun e w' => ∃ v, e = .returned v ∧ K (a.put dst v) w') : wpOp P ops.toArray Q i K a w := by
  refine wpOp_of_wp ho rfl ?_
  have hr : (execOp a.eval { dst := dst, op := .call { callee := .value (.func f), args := xs.toArray, argTypes := ats }, type := ty, pos := pos, after := after, guard := none }).run P w = .ok (.enter f args.toArray) w := by
    rw [execOp_call_go]
    have hn' : ¬ fn.name = "runtime.NumGoroutine" := by simpa using hn
    have hb' : ¬ fn.body = none := by intro h; simp [h] at hb
    simp [callFunc, Go.program, Sem.run, hfn, hn', hb', hargs]
  unfold Oper.wp
  rw [hr]
  refine Calls.mono hc ?_
  rintro e w' ⟨v, rfl, hk⟩
  exact hk
end
end Go.Own
namespace Go.Proofs.Ygcsal
open Go.RowKit Go.Own

set_option maxHeartbeats 4000000 in
set_option maxRecDepth 100000 in
theorem wideRight_any (xs ys ms zs : List Nat) (w : World) (hx : xs.length = 32) (hy : ys.length = 32) (hm : ms.length = 32) (hz : zs.length = 64) (hsx : Small xs) (hsy : Small ys) (hsm : Small ms) (hsz : Small zs) :
    Calls Salg.prog 8 #[A8 xs, A8 ys, A8 ms, A8 zs] w fun e w' => e = .returned (.bool true) ∧ Kept [] w w' := by
  have M := Mem.start w []
  have hX := be_small_lt hsx
  rw [hx] at hX
  have hY := be_small_lt hsy
  rw [hy] at hY
  have hMM := be_small_lt hsm
  rw [hm] at hMM
  have hZ := be_small_lt hsz
  rw [hz] at hZ
  have HBX := hid (fun w => fromBytes_any xs w hx hsx)
  have HBY := hid (fun w => fromBytes_any ys w hy hsy)
  have HBM := hid (fun w => fromBytes_any ms w hm hsm)
  have HFX := hid (fun (b : Nat) (w : World) (h : w.heap[b]? = some (R8 22 xs)) => fromBE_any b 22 xs w h (by omega) hsx)
  rw [hx] at HFX
  have HFY := hid (fun (b : Nat) (w : World) (h : w.heap[b]? = some (R8 22 ys)) => fromBE_any b 22 ys w h (by omega) hsy)
  rw [hy] at HFY
  have HFM := hid (fun (b : Nat) (w : World) (h : w.heap[b]? = some (R8 22 ms)) => fromBE_any b 22 ms w h (by omega) hsm)
  rw [hm] at HFM
  have HFZ := hid (fun (b : Nat) (w : World) (h : w.heap[b]? = some (R8 51 zs)) => fromBE_any b 51 zs w h (by omega) hsz)
  rw [hz] at HFZ
  have HMU := hid (fun w => mul512_any (limbs4 xs) (limbs4 ys) w rfl rfl (limbs4_limbs xs hsx) (limbs4_limbs ys hsy))
  rw [be_limbs4 hx, be_limbs4 hy] at HMU
  have hpl8 := nl_length 8 (be xs * be ys)
  have HPL := hid (nl_limbs 8 (be xs * be ys))
  have HPV : Hid (lval (nl 8 (be xs * be ys)) = be xs * be ys) := by
    show _ = _
    rw [nl_lval, Nat.mod_eq_of_lt]
    exact Nat.lt_of_lt_of_le (Nat.mul_lt_mul'' hX hY) (by decide)
  have HRE := hid (fun (l : List Nat) (w : World) (hl : l.length = 8) (hL : Limbs l) => rem512_any l (limbs4 ms) w hl rfl hL (limbs4_limbs ms hsm))
  rw [be_limbs4 hm] at HRE
  have HRH := hid (fun (v u : Value) (w : World) (h1 : NumV w v (be zs)) (h2 : NumV w u (be ms)) => remHolds_any v u _ _ w h1 h2 hZ hMM)
  have hrl := nl_length 4 (remN (be zs) (be ms))
  have hpl : (pathL (be zs) (be ms)).length = 3 := rfl
  have HX200 : Hid (be xs < 256 ^ 200) := Nat.lt_of_lt_of_le hX (show (256 : Nat) ^ 32 ≤ 256 ^ 200 by decide)
  have HY200 : Hid (be ys < 256 ^ 200) := Nat.lt_of_lt_of_le hY (show (256 : Nat) ^ 32 ≤ 256 ^ 200 by decide)
  have HEND : Hid (∀ l, In8 zs 64 l → lval l = be zs ∧ Limbs l ∧ l.length = 8) := fun l h => ⟨in8_end hz h, in8_limbs hsz h, h.1⟩
  have HST : Hid (∀ (i : Nat) (l : List Nat) (x c : Nat), i < 64 → In8 zs i l → l[7 - i / 8]? = some x → zs[i]? = some c → In8 zs (i + 1) (l.set (7 - i / 8) (x * 256 % 18446744073709551616 + c))) := fun i l x c hi h h1 h2 => in8_step hsz hz hi h h1 h2
  have HZS := hid hsz
  clear hX hY hMM hZ hsx hsy hsm hsz
  generalize nl 8 (be xs * be ys) = p8 at *
  generalize limbs4 xs = xl at *
  generalize limbs4 ys = yl at *
  generalize limbs4 ms = ml at *
  go_enter Salg.func8, Salg.ntmps8
  go_wp2_with (first
    | ((with_reducible apply L_box (d := 4) M); rfl; clear M; intro b1 w1 hb1 M; simp only [Act.put, List.setIfInBounds_toArray, List.set_cons_zero, List.set_cons_succ])
    | ((with_reducible apply L_box (d := 5) M); rfl; clear M; intro b2 w1 hb2 M; simp only [Act.put, List.setIfInBounds_toArray, List.set_cons_zero, List.set_cons_succ])
    | ((with_reducible apply L_box (d := 6) M); rfl; clear M; intro b3 w1 hb3 M; simp only [Act.put, List.setIfInBounds_toArray, List.set_cons_zero, List.set_cons_succ])
    | ((with_reducible apply L_box (d := 7) M); rfl; clear M; intro b4 w1 hb4 M; simp only [Act.put, List.setIfInBounds_toArray, List.set_cons_zero, List.set_cons_succ])
    | ((with_reducible apply L_allocA M); exact zero52; clear M; intro b5 w1 hb5 M; simp only [Act.put, List.setIfInBounds_toArray, List.set_cons_zero, List.set_cons_succ])
    | ((with_reducible apply W_loadAll); rfl; (first | with_reducible exact M.r0 | with_reducible exact M.r1 | with_reducible exact M.r2 | with_reducible exact M.r3 | with_reducible exact M.r4 | with_reducible exact M.r5 | with_reducible exact M.r6 | assumption | exact M.kept.row (by assumption) (by simp)); exact Salg.underlying51; rfl; (first | with_reducible exact size51 | (rw [size51]; simp [hz])); simp only [Act.put, List.setIfInBounds_toArray, List.set_cons_zero, List.set_cons_succ]))
  go_loopw [16] (fun iv wr => ∃ (i : Nat) (l : List Nat), i ≤ 64 ∧ iv = .int .i64 i ∧ In8 zs i l ∧ Mem w [] [(b5, R64 52 l), (b4, R8 51 zs), (b3, R8 22 ms), (b2, R8 22 ys), (b1, R8 22 xs)] wr) (fun iv _ => 64 - (intOf iv).toNat)
  case atStart => exact ⟨0, List.replicate 8 0, by omega, rfl, in8_start zs, M⟩
  case round =>
    clear M
    obtain ⟨i, l, hi, rfl, hin, M⟩ := hrel
    have HIN := hid hin
    clear hin
    have hl8 : l.length = 8 := HIN.out.1
    by_cases hlt : i < 64
    · have hc : zs[i]? = some zs[i] := List.getElem?_eq_getElem (by omega)
      have hc2 : zs[i] < 256 := HZS.out _ (List.getElem_mem (by omega))
      have hl : l[7 - i / 8]? = some l[7 - i / 8] := List.getElem?_eq_getElem (by omega)
      have HNX := hid (HST.out i l _ _ hlt HIN.out hl hc)
      have hlb : l[7 - i / 8] < 18446744073709551616 := in8_limbs HZS.out HIN.out _ (List.getElem_mem (by omega))
      generalize l[7 - i / 8] = x at *
      generalize zs[i] = c at *
      clear HIN
      go_wp2_with (first
        | ((with_reducible apply W_index); rfl; rfl; rfl; exact Salg.underlying51; exact Salg.underlying5; exact size5; exact (by omega); (first | exact get_map (by assumption) | exact get_map rfl | rfl); simp only [Act.put, List.setIfInBounds_toArray, List.set_cons_zero, List.set_cons_succ])
        | ((with_reducible apply W_loadCell); rfl; (first | with_reducible exact M.r0 | with_reducible exact M.r1 | with_reducible exact M.r2 | with_reducible exact M.r3 | with_reducible exact M.r4 | with_reducible exact M.r5 | with_reducible exact M.r6 | assumption | exact M.kept.row (by assumption) (by simp)); (first | exact get_map (by assumption) | exact get_map rfl | rfl); exact Salg.underlying23; rfl; simp only [Act.put, List.setIfInBounds_toArray, List.set_cons_zero, List.set_cons_succ])
        | ((with_reducible apply W_st64_0); rfl; rfl; exact shl8_or_wrap hc2; exact M; exact Or.inr hb5; exact size23; omega; clear M; intro w2 M))
      go_roundw
      case rel => exact ⟨i + 1, _, by omega, by go_num, HNX.out, M⟩
      case measure => simp [intOf]; omega
    · obtain rfl : i = 64 := by omega
      obtain ⟨hlv, hlL, _⟩ := HEND.out l HIN.out
      have HLV := hid hlv
      have HLL := hid hlL
      clear hlv hlL HIN HEND HST HZS hi hlt
      go_wp2_with fail
      refine S_region (by kernel_rfl) ?_
      refine V_stage 0 5 6 (fun i => R64 52 (List.replicate 8 0)) (by kernel_rfl) (by decide) (by decide)
        (by intro i h1 h2; obtain rfl : i = 5 := by omega
            exact ⟨12, 52, _, _, _, _, rfl, zero52, rfl⟩) M.drew ?_
      clear M
      simp only [List.take_succ_cons, List.take_zero, List.drop_zero, List.drop_succ_cons, Nat.sub_zero, Nat.reduceSub]
      ((with_reducible apply V_run); rfl; (intro w M; exact run_loadAll (by (first | with_reducible exact M.r0 | with_reducible exact M.r1 | with_reducible exact M.r2 | with_reducible exact M.r3 | with_reducible exact M.r4 | with_reducible exact M.r5 | with_reducible exact M.r6 | assumption | exact M.kept.row (by assumption) (by simp))) rfl Salg.underlying22 rfl (by first | with_reducible exact size22 | (rw [size22]; simp [hx]))); simp only [Act.put, List.setIfInBounds_toArray, List.set_cons_zero, List.set_cons_succ])
      refine V_call rfl Salg.func10 (by kernel_rfl) (by kernel_rfl) (args := [A8 xs]) rfl (fun w M => HBX.out w) ?_
      simp only [Act.put, List.setIfInBounds_toArray, List.set_cons_zero, List.set_cons_succ]
      ((with_reducible apply V_run); rfl; (intro w M; exact run_loadAll (by (first | with_reducible exact M.r0 | with_reducible exact M.r1 | with_reducible exact M.r2 | with_reducible exact M.r3 | with_reducible exact M.r4 | with_reducible exact M.r5 | with_reducible exact M.r6 | assumption | exact M.kept.row (by assumption) (by simp))) rfl Salg.underlying22 rfl (by first | with_reducible exact size22 | (rw [size22]; simp [hy]))); simp only [Act.put, List.setIfInBounds_toArray, List.set_cons_zero, List.set_cons_succ])
      refine V_call rfl Salg.func10 (by kernel_rfl) (by kernel_rfl) (args := [A8 ys]) rfl (fun w M => HBY.out w) ?_
      simp only [Act.put, List.setIfInBounds_toArray, List.set_cons_zero, List.set_cons_succ]
      refine V_call rfl Salg.func23 (by kernel_rfl) (by kernel_rfl) (args := [A64 xl, A64 yl]) rfl (fun w M => HMU.out w) ?_
      simp only [Act.put, List.setIfInBounds_toArray, List.set_cons_zero, List.set_cons_succ]
      refine V_nil ?_
      intro bl w6 hbl M
      have hb6 := hbl 5 (by decide) (by decide)
      simp only [Nat.reduceSub, List.range', newRows, List.map_cons, List.map_nil, List.reverse_cons, List.reverse_nil, List.nil_append, List.cons_append, Nat.reduceAdd] at M
      simp only [Nat.reduceSub, List.range', puts, if_true, dstOf, Nat.reduceAdd, List.getElem?_cons_succ, List.getElem?_cons_zero, Option.bind_some]
      simp only [Act.put, List.setIfInBounds_toArray, List.set_cons_zero, List.set_cons_succ]
      generalize bl 5 = b6 at *
      clear hbl HBX HBY HMU
      refine S_seg 6 7 (by kernel_rfl) (by decide) ?_
      simp only [List.take_succ_cons, List.take_zero, List.drop_zero, List.drop_succ_cons, Nat.sub_zero, Nat.reduceSub]
      go_wp2_with ((with_reducible apply W_storeK (b := b6)); rfl; rfl; exact M.r0; exact size52; (simp [hpl8]); exact one64 _; intro w3 K hr3; replace M := Mem.callPut (L1 := []) M (Or.inr (by assumption)) K hr3; clear K hr3; simp only [List.cons_append, List.nil_append] at M)
      refine S_done ?_
      go_wp2_with fail
      refine S_region (by kernel_rfl) ?_
      replace M := M.drew
      refine S_nrml ?_
      refine S_perm [0, 2, 4, 1, 3, 5, 6, 7, 8] [0, 3, 1, 4, 2, 5, 6, 7, 8] (by kernel_rfl) ?_
      simp only [permOps, List.map_cons, List.map_nil, List.getD_cons_zero, List.getD_cons_succ, relab]
      refine S_hoist 0 rfl (by kernel_rfl) (fun w => Go.Own.run_sliceArr (l := 0) (h := 8) (m := 8) rfl Salg.underlying52 size23 (by (first | exact Or.inl ⟨rfl, rfl⟩ | exact Or.inr ⟨_, _, _, rfl, rfl, by omega⟩)) (by (first | exact Or.inl ⟨rfl, rfl⟩ | exact Or.inr ⟨_, _, _, rfl, rfl, by omega⟩)) (by (first | exact Or.inl ⟨rfl, rfl⟩ | exact Or.inr ⟨_, _, _, rfl, rfl, by omega⟩)) (by first | exact Or.inl rfl | exact Or.inr rfl) (by omega) (by omega) (by omega) (by omega)) ?_
      simp only [Act.put, List.setIfInBounds_toArray, List.set_cons_zero, List.set_cons_succ]
      simp only [Nat.zero_add, Nat.sub_zero]
      refine S_hoist 1 rfl (by kernel_rfl) (fun w => Go.Own.run_sliceArr (l := 0) (h := 32) (m := 32) rfl Salg.underlying22 size5 (by (first | exact Or.inl ⟨rfl, rfl⟩ | exact Or.inr ⟨_, _, _, rfl, rfl, by omega⟩)) (by (first | exact Or.inl ⟨rfl, rfl⟩ | exact Or.inr ⟨_, _, _, rfl, rfl, by omega⟩)) (by (first | exact Or.inl ⟨rfl, rfl⟩ | exact Or.inr ⟨_, _, _, rfl, rfl, by omega⟩)) (by first | exact Or.inl rfl | exact Or.inr rfl) (by omega) (by omega) (by omega) (by omega)) ?_
      simp only [Act.put, List.setIfInBounds_toArray, List.set_cons_zero, List.set_cons_succ]
      simp only [Nat.zero_add, Nat.sub_zero]
      refine S_hoist 2 rfl (by kernel_rfl) (fun w => Go.Own.run_sliceArr (l := 0) (h := 32) (m := 32) rfl Salg.underlying22 size5 (by (first | exact Or.inl ⟨rfl, rfl⟩ | exact Or.inr ⟨_, _, _, rfl, rfl, by omega⟩)) (by (first | exact Or.inl ⟨rfl, rfl⟩ | exact Or.inr ⟨_, _, _, rfl, rfl, by omega⟩)) (by (first | exact Or.inl ⟨rfl, rfl⟩ | exact Or.inr ⟨_, _, _, rfl, rfl, by omega⟩)) (by first | exact Or.inl rfl | exact Or.inr rfl) (by omega) (by omega) (by omega) (by omega)) ?_
      simp only [Act.put, List.setIfInBounds_toArray, List.set_cons_zero, List.set_cons_succ]
      simp only [Nat.zero_add, Nat.sub_zero]
      refine S_seg 3 9 (by kernel_rfl) (by decide) ?_
      simp only [List.take_succ_cons, List.take_zero, List.drop_zero, List.drop_succ_cons, Nat.sub_zero, Nat.reduceSub]
      go_wp2_with fail
      refine (limbsNat_any _ _ _ (LimbV.row M.r0 HPL.out 0 8 8 (by omega) (by omega))).mono ?_
      rintro e w7 ⟨PN, rfl, xHPN, K⟩
      have HPN := hid xHPN
      replace M := M.call K
      clear K xHPN
      rw [List.drop_zero, List.take_of_length_le (by omega), HPV.out] at HPN
      go_wp2_with fail
      refine (HFX.out b1 _ M.r5).mono ?_
      rintro e w8 ⟨XN, rfl, xHXN, K⟩
      have HXN := hid xHXN
      replace HPN := hid (HPN.out.kept K)
      replace M := M.call K
      clear K xHXN
      go_wp2_with fail
      refine (HFY.out b2 _ M.r4).mono ?_
      rintro e w9 ⟨YN, rfl, xHYN, K⟩
      have HYN := hid xHYN
      replace HPN := hid (HPN.out.kept K)
      replace HXN := hid (HXN.out.kept K)
      replace M := M.call K
      clear K xHYN
      go_wp2_with fail
      refine (mul_num _ _ _ _ _ HXN.out HYN.out HX200.out HY200.out).mono ?_
      rintro e w10 ⟨MN, rfl, xHMN, K⟩
      have HMN := hid xHMN
      replace HPN := hid (HPN.out.kept K)
      replace M := M.call K
      clear K xHMN
      go_wp2_with fail
      refine (cmp_num _ _ _ _ _ HPN.out HMN.out).mono ?_
      rintro e w11 ⟨rfl, K⟩
      replace M := M.call K
      clear K
      rw [cmpI_self]
      clear HPN HXN HYN HMN HFX HFY HPL HPV HX200 HY200
      go_wp2_with fail
      refine S_done ?_
      refine ⟨rfl, ?_⟩
      have HR8 : Hid (∀ w, Calls Salg.prog 28 #[A64 l, A64 ml] w fun e w' => e = .returned (.tuple #[A64 (nl 4 (remN (be zs) (be ms))), A8 (pathL (be zs) (be ms))]) ∧ Kept [] w w') := fun w => by
        have h := HRE.out l w hl8 HLL.out
        rw [HLV.out] at h
        exact h
      clear HRE HLV HLL
      generalize nl 4 (remN (be zs) (be ms)) = r4 at *
      generalize pathL (be zs) (be ms) = p3 at *
      go_wp2_with fail
      refine S_region (by kernel_rfl) ?_
      refine S_nrml ?_
      refine S_late 6 (by kernel_rfl) ?_
      simp only [List.map_cons, List.map_nil, bind1]
      refine V_stage 0 7 9 (fun i => if i = 8 then R8 46 (List.replicate 3 0) else R64 25 (List.replicate 4 0)) (by kernel_rfl) (by decide) (by decide)
        (by intro i h1 h2; rcases (by omega : i = 7 ∨ i = 8) with rfl | rfl; exact ⟨13, 25, _, _, _, _, rfl, zero25, rfl⟩; exact ⟨14, 46, _, _, _, _, rfl, zero46, rfl⟩) M.drew ?_
      clear M
      simp only [List.take_succ_cons, List.take_zero, List.drop_zero, List.drop_succ_cons, Nat.sub_zero, Nat.reduceSub]
      ((with_reducible apply V_run); rfl; (intro w M; exact run_loadAll (by (first | with_reducible exact M.r0 | with_reducible exact M.r1 | with_reducible exact M.r2 | with_reducible exact M.r3 | with_reducible exact M.r4 | with_reducible exact M.r5 | with_reducible exact M.r6 | assumption | exact M.kept.row (by assumption) (by simp))) rfl Salg.underlying52 rfl (by first | with_reducible exact size52 | (rw [size52]; simp [hl8]))); simp only [Act.put, List.setIfInBounds_toArray, List.set_cons_zero, List.set_cons_succ])
      ((with_reducible apply V_run); rfl; (intro w M; exact run_loadAll (by (first | with_reducible exact M.r0 | with_reducible exact M.r1 | with_reducible exact M.r2 | with_reducible exact M.r3 | with_reducible exact M.r4 | with_reducible exact M.r5 | with_reducible exact M.r6 | assumption | exact M.kept.row (by assumption) (by simp))) rfl Salg.underlying22 rfl (by first | with_reducible exact size22 | (rw [size22]; simp [hm]))); simp only [Act.put, List.setIfInBounds_toArray, List.set_cons_zero, List.set_cons_succ])
      refine V_call rfl Salg.func10 (by kernel_rfl) (by kernel_rfl) (args := [A8 ms]) rfl (fun w M => HBM.out w) ?_
      simp only [Act.put, List.setIfInBounds_toArray, List.set_cons_zero, List.set_cons_succ]
      refine V_call rfl Salg.func28 (by kernel_rfl) (by kernel_rfl) (args := [A64 l, A64 ml]) rfl (fun w M => HR8.out w) ?_
      simp only [Act.put, List.setIfInBounds_toArray, List.set_cons_zero, List.set_cons_succ]
      ((with_reducible apply V_run); rfl; (intro w M; go_simp; (try go_ints); (try simp only [↓IntWalk.iteOmega]); (try with_reducible rfl)); simp only [Act.put, List.setIfInBounds_toArray, List.set_cons_zero, List.set_cons_succ])
      ((with_reducible apply V_run); rfl; (intro w M; go_simp; (try go_ints); (try simp only [↓IntWalk.iteOmega]); (try with_reducible rfl)); simp only [Act.put, List.setIfInBounds_toArray, List.set_cons_zero, List.set_cons_succ])
      ((with_reducible apply V_run); rfl; (intro w M; go_simp; (try go_ints); (try simp only [↓IntWalk.iteOmega]); (try with_reducible rfl)); simp only [Act.put, List.setIfInBounds_toArray, List.set_cons_zero, List.set_cons_succ])
      refine V_nil ?_
      intro bl w12 hbl M
      have hb7 := hbl 7 (by decide) (by decide)
      have hb8 := hbl 8 (by decide) (by decide)
      simp only [Nat.reduceSub, List.range', newRows, List.map_cons, List.map_nil, List.reverse_cons, List.reverse_nil, List.nil_append, List.cons_append, Nat.reduceAdd, Nat.reduceEqDiff, if_true, if_false] at M
      simp only [Nat.reduceSub, List.range', puts, if_true, dstOf, Nat.reduceAdd, List.getElem?_cons_succ, List.getElem?_cons_zero, Option.bind_some]
      simp only [Act.put, List.setIfInBounds_toArray, List.set_cons_zero, List.set_cons_succ]
      generalize bl 7 = b7 at *
      generalize bl 8 = b8 at *
      clear hbl HBM HR8
      refine S_seg 9 11 (by kernel_rfl) (by decide) ?_
      simp only [List.take_succ_cons, List.take_zero, List.drop_zero, List.drop_succ_cons, Nat.sub_zero, Nat.reduceSub]
      go_wp2_with (first
        | ((with_reducible apply W_storeK (b := b7)); rfl; rfl; exact M.r1; exact size25; (simp [hrl]); exact one64 _; intro w3 K hr3; replace M := Mem.callPut (L1 := [_]) M (Or.inr (by assumption)) K hr3; clear K hr3; simp only [List.cons_append, List.nil_append] at M)
        | ((with_reducible apply W_storeK (b := b8)); rfl; rfl; exact M.r0; exact size46; (simp [hpl]); exact one8 _; intro w3 K hr3; replace M := Mem.callPut (L1 := []) M (Or.inr (by assumption)) K hr3; clear K hr3; simp only [List.cons_append, List.nil_append] at M))
      refine S_done ?_
      refine ⟨rfl, ?_⟩
      go_wp2_with fail
      refine S_region (by kernel_rfl) ?_
      replace M := M.drew
      refine S_nrml ?_
      refine S_perm [0, 2, 1, 3, 4, 5, 6, 7] [0, 2, 1, 3, 4, 5, 6, 7] (by kernel_rfl) ?_
      simp only [permOps, List.map_cons, List.map_nil, List.getD_cons_zero, List.getD_cons_succ, relab]
      refine S_hoist 0 rfl (by kernel_rfl) (fun w => Go.Own.run_sliceArr (l := 0) (h := 64) (m := 64) rfl Salg.underlying51 size5 (by (first | exact Or.inl ⟨rfl, rfl⟩ | exact Or.inr ⟨_, _, _, rfl, rfl, by omega⟩)) (by (first | exact Or.inl ⟨rfl, rfl⟩ | exact Or.inr ⟨_, _, _, rfl, rfl, by omega⟩)) (by (first | exact Or.inl ⟨rfl, rfl⟩ | exact Or.inr ⟨_, _, _, rfl, rfl, by omega⟩)) (by first | exact Or.inl rfl | exact Or.inr rfl) (by omega) (by omega) (by omega) (by omega)) ?_
      simp only [Act.put, List.setIfInBounds_toArray, List.set_cons_zero, List.set_cons_succ]
      simp only [Nat.zero_add, Nat.sub_zero]
      refine S_hoist 1 rfl (by kernel_rfl) (fun w => Go.Own.run_sliceArr (l := 0) (h := 32) (m := 32) rfl Salg.underlying22 size5 (by (first | exact Or.inl ⟨rfl, rfl⟩ | exact Or.inr ⟨_, _, _, rfl, rfl, by omega⟩)) (by (first | exact Or.inl ⟨rfl, rfl⟩ | exact Or.inr ⟨_, _, _, rfl, rfl, by omega⟩)) (by (first | exact Or.inl ⟨rfl, rfl⟩ | exact Or.inr ⟨_, _, _, rfl, rfl, by omega⟩)) (by first | exact Or.inl rfl | exact Or.inr rfl) (by omega) (by omega) (by omega) (by omega)) ?_
      simp only [Act.put, List.setIfInBounds_toArray, List.set_cons_zero, List.set_cons_succ]
      simp only [Nat.zero_add, Nat.sub_zero]
      refine S_pick3 2 4 5 (by kernel_rfl) ?_ ?_ ?_
      · refine S_call rfl Salg.func27 (by kernel_rfl) (by kernel_rfl) (args := [.slice (some ⟨b4, 0, none⟩) 64 64]) rfl ?_
        refine (HFZ.out b4 _ M.r4).mono ?_
        rintro e v2 ⟨ZN, rfl, xZN, K⟩
        refine ⟨_, rfl, ?_⟩
        have HZN := hid xZN
        replace M := M.call K
        clear K xZN
        simp only [Act.put, List.setIfInBounds_toArray, List.set_cons_zero, List.set_cons_succ]
        refine S_pick3 3 4 5 (by kernel_rfl) ?_ ?_ ?_
        · refine S_call rfl Salg.func27 (by kernel_rfl) (by kernel_rfl) (args := [.slice (some ⟨b3, 0, none⟩) 32 32]) rfl ?_
          refine (HFM.out b3 _ M.r5).mono ?_
          rintro e v3 ⟨NN, rfl, xNN, K⟩
          refine ⟨_, rfl, ?_⟩
          have HNN := hid xNN
          replace M := M.call K
          replace HZN := hid (HZN.out.kept K)
          clear K xNN
          simp only [Act.put, List.setIfInBounds_toArray, List.set_cons_zero, List.set_cons_succ]
          refine S_pick2 4 5 (by kernel_rfl) ?_ ?_
          · refine S_val (v := A64 r4) rfl rfl (Go.Own.run_loadAll M.r1 rfl Salg.underlying25 rfl (by rw [size25]; simp [hrl])) ?_
            simp only [Act.put, List.setIfInBounds_toArray, List.set_cons_zero, List.set_cons_succ]
            refine S_pick1 5 (by kernel_rfl) ?_
            refine S_val (v := A8 p3) rfl rfl (Go.Own.run_loadAll M.r0 rfl Salg.underlying46 rfl (by rw [size46]; simp [hpl])) ?_
            simp only [Act.put, List.setIfInBounds_toArray, List.set_cons_zero, List.set_cons_succ]
            refine S_pick1 6 (by kernel_rfl) ?_
            refine S_call rfl Salg.func29 (by kernel_rfl) (by kernel_rfl) (args := [ZN, NN, A64 r4, A8 p3]) rfl ?_
            refine (HRH.out ZN NN _ HZN.out HNN.out).mono ?_
            rintro e v6 ⟨rfl, K⟩
            refine ⟨_, rfl, ?_⟩
            replace M := M.call K
            clear K
            simp only [Act.put, List.setIfInBounds_toArray, List.set_cons_zero, List.set_cons_succ]
            refine S_pick1 7 (by kernel_rfl) ?_
            refine S_val (v := .bool true) rfl rfl rfl ?_
            simp only [Act.put, List.setIfInBounds_toArray, List.set_cons_zero, List.set_cons_succ]
            refine S_end (by kernel_rfl) ?_
            refine ⟨rfl, ?_⟩
            go_wp2_with fail
            go_ret
            exact ⟨rfl, M.kept⟩
          · refine S_val (v := A8 p3) rfl rfl (Go.Own.run_loadAll M.r0 rfl Salg.underlying46 rfl (by rw [size46]; simp [hpl])) ?_
            simp only [Act.put, List.setIfInBounds_toArray, List.set_cons_zero, List.set_cons_succ]
            refine S_pick1 4 (by kernel_rfl) ?_
            refine S_val (v := A64 r4) rfl rfl (Go.Own.run_loadAll M.r1 rfl Salg.underlying25 rfl (by rw [size25]; simp [hrl])) ?_
            simp only [Act.put, List.setIfInBounds_toArray, List.set_cons_zero, List.set_cons_succ]
            refine S_pick1 6 (by kernel_rfl) ?_
            refine S_call rfl Salg.func29 (by kernel_rfl) (by kernel_rfl) (args := [ZN, NN, A64 r4, A8 p3]) rfl ?_
            refine (HRH.out ZN NN _ HZN.out HNN.out).mono ?_
            rintro e v6 ⟨rfl, K⟩
            refine ⟨_, rfl, ?_⟩
            replace M := M.call K
            clear K
            simp only [Act.put, List.setIfInBounds_toArray, List.set_cons_zero, List.set_cons_succ]
            refine S_pick1 7 (by kernel_rfl) ?_
            refine S_val (v := .bool true) rfl rfl rfl ?_
            simp only [Act.put, List.setIfInBounds_toArray, List.set_cons_zero, List.set_cons_succ]
            refine S_end (by kernel_rfl) ?_
            refine ⟨rfl, ?_⟩
            go_wp2_with fail
            go_ret
            exact ⟨rfl, M.kept⟩
        · refine S_val (v := A64 r4) rfl rfl (Go.Own.run_loadAll M.r1 rfl Salg.underlying25 rfl (by rw [size25]; simp [hrl])) ?_
          simp only [Act.put, List.setIfInBounds_toArray, List.set_cons_zero, List.set_cons_succ]
          refine S_pick2 3 5 (by kernel_rfl) ?_ ?_
          · refine S_call rfl Salg.func27 (by kernel_rfl) (by kernel_rfl) (args := [.slice (some ⟨b3, 0, none⟩) 32 32]) rfl ?_
            refine (HFM.out b3 _ M.r5).mono ?_
            rintro e v3 ⟨NN, rfl, xNN, K⟩
            refine ⟨_, rfl, ?_⟩
            have HNN := hid xNN
            replace M := M.call K
            replace HZN := hid (HZN.out.kept K)
            clear K xNN
            simp only [Act.put, List.setIfInBounds_toArray, List.set_cons_zero, List.set_cons_succ]
            refine S_pick1 5 (by kernel_rfl) ?_
            refine S_val (v := A8 p3) rfl rfl (Go.Own.run_loadAll M.r0 rfl Salg.underlying46 rfl (by rw [size46]; simp [hpl])) ?_
            simp only [Act.put, List.setIfInBounds_toArray, List.set_cons_zero, List.set_cons_succ]
            refine S_pick1 6 (by kernel_rfl) ?_
            refine S_call rfl Salg.func29 (by kernel_rfl) (by kernel_rfl) (args := [ZN, NN, A64 r4, A8 p3]) rfl ?_
            refine (HRH.out ZN NN _ HZN.out HNN.out).mono ?_
            rintro e v6 ⟨rfl, K⟩
            refine ⟨_, rfl, ?_⟩
            replace M := M.call K
            clear K
            simp only [Act.put, List.setIfInBounds_toArray, List.set_cons_zero, List.set_cons_succ]
            refine S_pick1 7 (by kernel_rfl) ?_
            refine S_val (v := .bool true) rfl rfl rfl ?_
            simp only [Act.put, List.setIfInBounds_toArray, List.set_cons_zero, List.set_cons_succ]
            refine S_end (by kernel_rfl) ?_
            refine ⟨rfl, ?_⟩
            go_wp2_with fail
            go_ret
            exact ⟨rfl, M.kept⟩
          · refine S_val (v := A8 p3) rfl rfl (Go.Own.run_loadAll M.r0 rfl Salg.underlying46 rfl (by rw [size46]; simp [hpl])) ?_
            simp only [Act.put, List.setIfInBounds_toArray, List.set_cons_zero, List.set_cons_succ]
            refine S_pick1 3 (by kernel_rfl) ?_
            refine S_call rfl Salg.func27 (by kernel_rfl) (by kernel_rfl) (args := [.slice (some ⟨b3, 0, none⟩) 32 32]) rfl ?_
            refine (HFM.out b3 _ M.r5).mono ?_
            rintro e v3 ⟨NN, rfl, xNN, K⟩
            refine ⟨_, rfl, ?_⟩
            have HNN := hid xNN
            replace M := M.call K
            replace HZN := hid (HZN.out.kept K)
            clear K xNN
            simp only [Act.put, List.setIfInBounds_toArray, List.set_cons_zero, List.set_cons_succ]
            refine S_pick1 6 (by kernel_rfl) ?_
            refine S_call rfl Salg.func29 (by kernel_rfl) (by kernel_rfl) (args := [ZN, NN, A64 r4, A8 p3]) rfl ?_
            refine (HRH.out ZN NN _ HZN.out HNN.out).mono ?_
            rintro e v6 ⟨rfl, K⟩
            refine ⟨_, rfl, ?_⟩
            replace M := M.call K
            clear K
            simp only [Act.put, List.setIfInBounds_toArray, List.set_cons_zero, List.set_cons_succ]
            refine S_pick1 7 (by kernel_rfl) ?_
            refine S_val (v := .bool true) rfl rfl rfl ?_
            simp only [Act.put, List.setIfInBounds_toArray, List.set_cons_zero, List.set_cons_succ]
            refine S_end (by kernel_rfl) ?_
            refine ⟨rfl, ?_⟩
            go_wp2_with fail
            go_ret
            exact ⟨rfl, M.kept⟩
        · refine S_val (v := A8 p3) rfl rfl (Go.Own.run_loadAll M.r0 rfl Salg.underlying46 rfl (by rw [size46]; simp [hpl])) ?_
          simp only [Act.put, List.setIfInBounds_toArray, List.set_cons_zero, List.set_cons_succ]
          refine S_pick2 3 4 (by kernel_rfl) ?_ ?_
          · refine S_call rfl Salg.func27 (by kernel_rfl) (by kernel_rfl) (args := [.slice (some ⟨b3, 0, none⟩) 32 32]) rfl ?_
            refine (HFM.out b3 _ M.r5).mono ?_
            rintro e v3 ⟨NN, rfl, xNN, K⟩
            refine ⟨_, rfl, ?_⟩
            have HNN := hid xNN
            replace M := M.call K
            replace HZN := hid (HZN.out.kept K)
            clear K xNN
            simp only [Act.put, List.setIfInBounds_toArray, List.set_cons_zero, List.set_cons_succ]
            refine S_pick1 4 (by kernel_rfl) ?_
            refine S_val (v := A64 r4) rfl rfl (Go.Own.run_loadAll M.r1 rfl Salg.underlying25 rfl (by rw [size25]; simp [hrl])) ?_
            simp only [Act.put, List.setIfInBounds_toArray, List.set_cons_zero, List.set_cons_succ]
            refine S_pick1 6 (by kernel_rfl) ?_
            refine S_call rfl Salg.func29 (by kernel_rfl) (by kernel_rfl) (args := [ZN, NN, A64 r4, A8 p3]) rfl ?_
            refine (HRH.out ZN NN _ HZN.out HNN.out).mono ?_
            rintro e v6 ⟨rfl, K⟩
            refine ⟨_, rfl, ?_⟩
            replace M := M.call K
            clear K
            simp only [Act.put, List.setIfInBounds_toArray, List.set_cons_zero, List.set_cons_succ]
            refine S_pick1 7 (by kernel_rfl) ?_
            refine S_val (v := .bool true) rfl rfl rfl ?_
            simp only [Act.put, List.setIfInBounds_toArray, List.set_cons_zero, List.set_cons_succ]
            refine S_end (by kernel_rfl) ?_
            refine ⟨rfl, ?_⟩
            go_wp2_with fail
            go_ret
            exact ⟨rfl, M.kept⟩
          · refine S_val (v := A64 r4) rfl rfl (Go.Own.run_loadAll M.r1 rfl Salg.underlying25 rfl (by rw [size25]; simp [hrl])) ?_
            simp only [Act.put, List.setIfInBounds_toArray, List.set_cons_zero, List.set_cons_succ]
            refine S_pick1 3 (by kernel_rfl) ?_
            refine S_call rfl Salg.func27 (by kernel_rfl) (by kernel_rfl) (args := [.slice (some ⟨b3, 0, none⟩) 32 32]) rfl ?_
            refine (HFM.out b3 _ M.r5).mono ?_
            rintro e v3 ⟨NN, rfl, xNN, K⟩
            refine ⟨_, rfl, ?_⟩
            have HNN := hid xNN
            replace M := M.call K
            replace HZN := hid (HZN.out.kept K)
            clear K xNN
            simp only [Act.put, List.setIfInBounds_toArray, List.set_cons_zero, List.set_cons_succ]
            refine S_pick1 6 (by kernel_rfl) ?_
            refine S_call rfl Salg.func29 (by kernel_rfl) (by kernel_rfl) (args := [ZN, NN, A64 r4, A8 p3]) rfl ?_
            refine (HRH.out ZN NN _ HZN.out HNN.out).mono ?_
            rintro e v6 ⟨rfl, K⟩
            refine ⟨_, rfl, ?_⟩
            replace M := M.call K
            clear K
            simp only [Act.put, List.setIfInBounds_toArray, List.set_cons_zero, List.set_cons_succ]
            refine S_pick1 7 (by kernel_rfl) ?_
            refine S_val (v := .bool true) rfl rfl rfl ?_
            simp only [Act.put, List.setIfInBounds_toArray, List.set_cons_zero, List.set_cons_succ]
            refine S_end (by kernel_rfl) ?_
            refine ⟨rfl, ?_⟩
            go_wp2_with fail
            go_ret
            exact ⟨rfl, M.kept⟩
      · refine S_val (v := A64 r4) rfl rfl (Go.Own.run_loadAll M.r1 rfl Salg.underlying25 rfl (by rw [size25]; simp [hrl])) ?_
        simp only [Act.put, List.setIfInBounds_toArray, List.set_cons_zero, List.set_cons_succ]
        refine S_pick2 2 5 (by kernel_rfl) ?_ ?_
        · refine S_call rfl Salg.func27 (by kernel_rfl) (by kernel_rfl) (args := [.slice (some ⟨b4, 0, none⟩) 64 64]) rfl ?_
          refine (HFZ.out b4 _ M.r4).mono ?_
          rintro e v2 ⟨ZN, rfl, xZN, K⟩
          refine ⟨_, rfl, ?_⟩
          have HZN := hid xZN
          replace M := M.call K
          clear K xZN
          simp only [Act.put, List.setIfInBounds_toArray, List.set_cons_zero, List.set_cons_succ]
          refine S_pick2 3 5 (by kernel_rfl) ?_ ?_
          · refine S_call rfl Salg.func27 (by kernel_rfl) (by kernel_rfl) (args := [.slice (some ⟨b3, 0, none⟩) 32 32]) rfl ?_
            refine (HFM.out b3 _ M.r5).mono ?_
            rintro e v3 ⟨NN, rfl, xNN, K⟩
            refine ⟨_, rfl, ?_⟩
            have HNN := hid xNN
            replace M := M.call K
            replace HZN := hid (HZN.out.kept K)
            clear K xNN
            simp only [Act.put, List.setIfInBounds_toArray, List.set_cons_zero, List.set_cons_succ]
            refine S_pick1 5 (by kernel_rfl) ?_
            refine S_val (v := A8 p3) rfl rfl (Go.Own.run_loadAll M.r0 rfl Salg.underlying46 rfl (by rw [size46]; simp [hpl])) ?_
            simp only [Act.put, List.setIfInBounds_toArray, List.set_cons_zero, List.set_cons_succ]
            refine S_pick1 6 (by kernel_rfl) ?_
            refine S_call rfl Salg.func29 (by kernel_rfl) (by kernel_rfl) (args := [ZN, NN, A64 r4, A8 p3]) rfl ?_
            refine (HRH.out ZN NN _ HZN.out HNN.out).mono ?_
            rintro e v6 ⟨rfl, K⟩
            refine ⟨_, rfl, ?_⟩
            replace M := M.call K
            clear K
            simp only [Act.put, List.setIfInBounds_toArray, List.set_cons_zero, List.set_cons_succ]
            refine S_pick1 7 (by kernel_rfl) ?_
            refine S_val (v := .bool true) rfl rfl rfl ?_
            simp only [Act.put, List.setIfInBounds_toArray, List.set_cons_zero, List.set_cons_succ]
            refine S_end (by kernel_rfl) ?_
            refine ⟨rfl, ?_⟩
            go_wp2_with fail
            go_ret
            exact ⟨rfl, M.kept⟩
          · refine S_val (v := A8 p3) rfl rfl (Go.Own.run_loadAll M.r0 rfl Salg.underlying46 rfl (by rw [size46]; simp [hpl])) ?_
            simp only [Act.put, List.setIfInBounds_toArray, List.set_cons_zero, List.set_cons_succ]
            refine S_pick1 3 (by kernel_rfl) ?_
            refine S_call rfl Salg.func27 (by kernel_rfl) (by kernel_rfl) (args := [.slice (some ⟨b3, 0, none⟩) 32 32]) rfl ?_
            refine (HFM.out b3 _ M.r5).mono ?_
            rintro e v3 ⟨NN, rfl, xNN, K⟩
            refine ⟨_, rfl, ?_⟩
            have HNN := hid xNN
            replace M := M.call K
            replace HZN := hid (HZN.out.kept K)
            clear K xNN
            simp only [Act.put, List.setIfInBounds_toArray, List.set_cons_zero, List.set_cons_succ]
            refine S_pick1 6 (by kernel_rfl) ?_
            refine S_call rfl Salg.func29 (by kernel_rfl) (by kernel_rfl) (args := [ZN, NN, A64 r4, A8 p3]) rfl ?_
            refine (HRH.out ZN NN _ HZN.out HNN.out).mono ?_
            rintro e v6 ⟨rfl, K⟩
            refine ⟨_, rfl, ?_⟩
            replace M := M.call K
            clear K
            simp only [Act.put, List.setIfInBounds_toArray, List.set_cons_zero, List.set_cons_succ]
            refine S_pick1 7 (by kernel_rfl) ?_
            refine S_val (v := .bool true) rfl rfl rfl ?_
            simp only [Act.put, List.setIfInBounds_toArray, List.set_cons_zero, List.set_cons_succ]
            refine S_end (by kernel_rfl) ?_
            refine ⟨rfl, ?_⟩
            go_wp2_with fail
            go_ret
            exact ⟨rfl, M.kept⟩
        · refine S_val (v := A8 p3) rfl rfl (Go.Own.run_loadAll M.r0 rfl Salg.underlying46 rfl (by rw [size46]; simp [hpl])) ?_
          simp only [Act.put, List.setIfInBounds_toArray, List.set_cons_zero, List.set_cons_succ]
          refine S_pick1 2 (by kernel_rfl) ?_
          refine S_call rfl Salg.func27 (by kernel_rfl) (by kernel_rfl) (args := [.slice (some ⟨b4, 0, none⟩) 64 64]) rfl ?_
          refine (HFZ.out b4 _ M.r4).mono ?_
          rintro e v2 ⟨ZN, rfl, xZN, K⟩
          refine ⟨_, rfl, ?_⟩
          have HZN := hid xZN
          replace M := M.call K
          clear K xZN
          simp only [Act.put, List.setIfInBounds_toArray, List.set_cons_zero, List.set_cons_succ]
          refine S_pick1 3 (by kernel_rfl) ?_
          refine S_call rfl Salg.func27 (by kernel_rfl) (by kernel_rfl) (args := [.slice (some ⟨b3, 0, none⟩) 32 32]) rfl ?_
          refine (HFM.out b3 _ M.r5).mono ?_
          rintro e v3 ⟨NN, rfl, xNN, K⟩
          refine ⟨_, rfl, ?_⟩
          have HNN := hid xNN
          replace M := M.call K
          replace HZN := hid (HZN.out.kept K)
          clear K xNN
          simp only [Act.put, List.setIfInBounds_toArray, List.set_cons_zero, List.set_cons_succ]
          refine S_pick1 6 (by kernel_rfl) ?_
          refine S_call rfl Salg.func29 (by kernel_rfl) (by kernel_rfl) (args := [ZN, NN, A64 r4, A8 p3]) rfl ?_
          refine (HRH.out ZN NN _ HZN.out HNN.out).mono ?_
          rintro e v6 ⟨rfl, K⟩
          refine ⟨_, rfl, ?_⟩
          replace M := M.call K
          clear K
          simp only [Act.put, List.setIfInBounds_toArray, List.set_cons_zero, List.set_cons_succ]
          refine S_pick1 7 (by kernel_rfl) ?_
          refine S_val (v := .bool true) rfl rfl rfl ?_
          simp only [Act.put, List.setIfInBounds_toArray, List.set_cons_zero, List.set_cons_succ]
          refine S_end (by kernel_rfl) ?_
          refine ⟨rfl, ?_⟩
          go_wp2_with fail
          go_ret
          exact ⟨rfl, M.kept⟩
      · refine S_val (v := A8 p3) rfl rfl (Go.Own.run_loadAll M.r0 rfl Salg.underlying46 rfl (by rw [size46]; simp [hpl])) ?_
        simp only [Act.put, List.setIfInBounds_toArray, List.set_cons_zero, List.set_cons_succ]
        refine S_pick2 2 4 (by kernel_rfl) ?_ ?_
        · refine S_call rfl Salg.func27 (by kernel_rfl) (by kernel_rfl) (args := [.slice (some ⟨b4, 0, none⟩) 64 64]) rfl ?_
          refine (HFZ.out b4 _ M.r4).mono ?_
          rintro e v2 ⟨ZN, rfl, xZN, K⟩
          refine ⟨_, rfl, ?_⟩
          have HZN := hid xZN
          replace M := M.call K
          clear K xZN
          simp only [Act.put, List.setIfInBounds_toArray, List.set_cons_zero, List.set_cons_succ]
          refine S_pick2 3 4 (by kernel_rfl) ?_ ?_
          · refine S_call rfl Salg.func27 (by kernel_rfl) (by kernel_rfl) (args := [.slice (some ⟨b3, 0, none⟩) 32 32]) rfl ?_
            refine (HFM.out b3 _ M.r5).mono ?_
            rintro e v3 ⟨NN, rfl, xNN, K⟩
            refine ⟨_, rfl, ?_⟩
            have HNN := hid xNN
            replace M := M.call K
            replace HZN := hid (HZN.out.kept K)
            clear K xNN
            simp only [Act.put, List.setIfInBounds_toArray, List.set_cons_zero, List.set_cons_succ]
            refine S_pick1 4 (by kernel_rfl) ?_
            refine S_val (v := A64 r4) rfl rfl (Go.Own.run_loadAll M.r1 rfl Salg.underlying25 rfl (by rw [size25]; simp [hrl])) ?_
            simp only [Act.put, List.setIfInBounds_toArray, List.set_cons_zero, List.set_cons_succ]
            refine S_pick1 6 (by kernel_rfl) ?_
            refine S_call rfl Salg.func29 (by kernel_rfl) (by kernel_rfl) (args := [ZN, NN, A64 r4, A8 p3]) rfl ?_
            refine (HRH.out ZN NN _ HZN.out HNN.out).mono ?_
            rintro e v6 ⟨rfl, K⟩
            refine ⟨_, rfl, ?_⟩
            replace M := M.call K
            clear K
            simp only [Act.put, List.setIfInBounds_toArray, List.set_cons_zero, List.set_cons_succ]
            refine S_pick1 7 (by kernel_rfl) ?_
            refine S_val (v := .bool true) rfl rfl rfl ?_
            simp only [Act.put, List.setIfInBounds_toArray, List.set_cons_zero, List.set_cons_succ]
            refine S_end (by kernel_rfl) ?_
            refine ⟨rfl, ?_⟩
            go_wp2_with fail
            go_ret
            exact ⟨rfl, M.kept⟩
          · refine S_val (v := A64 r4) rfl rfl (Go.Own.run_loadAll M.r1 rfl Salg.underlying25 rfl (by rw [size25]; simp [hrl])) ?_
            simp only [Act.put, List.setIfInBounds_toArray, List.set_cons_zero, List.set_cons_succ]
            refine S_pick1 3 (by kernel_rfl) ?_
            refine S_call rfl Salg.func27 (by kernel_rfl) (by kernel_rfl) (args := [.slice (some ⟨b3, 0, none⟩) 32 32]) rfl ?_
            refine (HFM.out b3 _ M.r5).mono ?_
            rintro e v3 ⟨NN, rfl, xNN, K⟩
            refine ⟨_, rfl, ?_⟩
            have HNN := hid xNN
            replace M := M.call K
            replace HZN := hid (HZN.out.kept K)
            clear K xNN
            simp only [Act.put, List.setIfInBounds_toArray, List.set_cons_zero, List.set_cons_succ]
            refine S_pick1 6 (by kernel_rfl) ?_
            refine S_call rfl Salg.func29 (by kernel_rfl) (by kernel_rfl) (args := [ZN, NN, A64 r4, A8 p3]) rfl ?_
            refine (HRH.out ZN NN _ HZN.out HNN.out).mono ?_
            rintro e v6 ⟨rfl, K⟩
            refine ⟨_, rfl, ?_⟩
            replace M := M.call K
            clear K
            simp only [Act.put, List.setIfInBounds_toArray, List.set_cons_zero, List.set_cons_succ]
            refine S_pick1 7 (by kernel_rfl) ?_
            refine S_val (v := .bool true) rfl rfl rfl ?_
            simp only [Act.put, List.setIfInBounds_toArray, List.set_cons_zero, List.set_cons_succ]
            refine S_end (by kernel_rfl) ?_
            refine ⟨rfl, ?_⟩
            go_wp2_with fail
            go_ret
            exact ⟨rfl, M.kept⟩
        · refine S_val (v := A64 r4) rfl rfl (Go.Own.run_loadAll M.r1 rfl Salg.underlying25 rfl (by rw [size25]; simp [hrl])) ?_
          simp only [Act.put, List.setIfInBounds_toArray, List.set_cons_zero, List.set_cons_succ]
          refine S_pick1 2 (by kernel_rfl) ?_
          refine S_call rfl Salg.func27 (by kernel_rfl) (by kernel_rfl) (args := [.slice (some ⟨b4, 0, none⟩) 64 64]) rfl ?_
          refine (HFZ.out b4 _ M.r4).mono ?_
          rintro e v2 ⟨ZN, rfl, xZN, K⟩
          refine ⟨_, rfl, ?_⟩
          have HZN := hid xZN
          replace M := M.call K
          clear K xZN
          simp only [Act.put, List.setIfInBounds_toArray, List.set_cons_zero, List.set_cons_succ]
          refine S_pick1 3 (by kernel_rfl) ?_
          refine S_call rfl Salg.func27 (by kernel_rfl) (by kernel_rfl) (args := [.slice (some ⟨b3, 0, none⟩) 32 32]) rfl ?_
          refine (HFM.out b3 _ M.r5).mono ?_
          rintro e v3 ⟨NN, rfl, xNN, K⟩
          refine ⟨_, rfl, ?_⟩
          have HNN := hid xNN
          replace M := M.call K
          replace HZN := hid (HZN.out.kept K)
          clear K xNN
          simp only [Act.put, List.setIfInBounds_toArray, List.set_cons_zero, List.set_cons_succ]
          refine S_pick1 6 (by kernel_rfl) ?_
          refine S_call rfl Salg.func29 (by kernel_rfl) (by kernel_rfl) (args := [ZN, NN, A64 r4, A8 p3]) rfl ?_
          refine (HRH.out ZN NN _ HZN.out HNN.out).mono ?_
          rintro e v6 ⟨rfl, K⟩
          refine ⟨_, rfl, ?_⟩
          replace M := M.call K
          clear K
          simp only [Act.put, List.setIfInBounds_toArray, List.set_cons_zero, List.set_cons_succ]
          refine S_pick1 7 (by kernel_rfl) ?_
          refine S_val (v := .bool true) rfl rfl rfl ?_
          simp only [Act.put, List.setIfInBounds_toArray, List.set_cons_zero, List.set_cons_succ]
          refine S_end (by kernel_rfl) ?_
          refine ⟨rfl, ?_⟩
          go_wp2_with fail
          go_ret
          exact ⟨rfl, M.kept⟩
end Go.Proofs.Ygcsal

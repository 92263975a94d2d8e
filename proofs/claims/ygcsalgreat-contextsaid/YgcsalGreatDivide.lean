/-
  The walk of u256.divide.
-/
import Derived.Test.YgcsalGreatShort
import Derived.Test.YgcsalGreatLaws2
import Derived.Test.YgcsalGreatRound2
import Derived.Test.YgcsalGreatShift
set_option linter.unusedSimpArgs false
namespace Go.Own
/-- The remainder as the program has it. -/
def remN (X V : Nat) : Nat := if V = 0 then 0 else X % V
end Go.Own
namespace Go.Proofs.YgcsalGreat
open Go.RowKit Go.Own
theorem zero23 : (Salg.prog.info? 23).bind (·.zero) = some (.int .u64 0) := by kernel_rfl

set_option maxHeartbeats 1000000 in
set_option maxRecDepth 100000 in
theorem divide_zero (bx tx : Nat) (xs vs : List Nat) (w : World) (hr : w.heap[bx]? = some (R64 tx xs)) (hx : xs.length = 8) (hv : vs.length = 4) (hn : tl vs 4 = 0) :
    Calls Salg.prog 201 #[.pointer (some ⟨bx, 0, none⟩), A64 vs] w fun e w' =>
      e = .returned (.tuple #[A64 (List.replicate 4 0), A8 (List.replicate 3 0)]) ∧ Kept [bx] w w' ∧ w'.heap[bx]? = some (R64 tx (List.replicate 8 0)) := by
  have M : Mem w [bx] [(bx, R64 tx xs)] w := (Mem.start w [bx]).add hr (by simp)
  have HLM := hid (fun w => limbs_any vs w hv)
  simp only [hn] at HLM
  clear hr hn
  go_enter Salg.func201, Salg.ntmps201
  go_wp2_with (first
    | ((with_reducible apply L_box (d := 3) M); rfl; clear M; intro b1 w1 hb1 M; simp only [Act.put, List.setIfInBounds_toArray, List.set_cons_zero, List.set_cons_succ])
    | ((with_reducible apply L_allocA M); exact zero25; clear M; intro b2 w1 hb2 M; simp only [Act.put, List.setIfInBounds_toArray, List.set_cons_zero, List.set_cons_succ])
    | ((with_reducible apply L_allocA M); exact zero178; clear M; intro b3 w1 hb3 M; simp only [Act.put, List.setIfInBounds_toArray, List.set_cons_zero, List.set_cons_succ])
    | ((with_reducible apply W_loadAll); rfl; (first | with_reducible exact M.r0 | with_reducible exact M.r1 | with_reducible exact M.r2 | with_reducible exact M.r3 | with_reducible exact M.r4 | with_reducible exact M.r5 | with_reducible exact M.r6 | assumption | exact M.kept.row (by assumption) (by simp)); exact Salg.underlying25; rfl; (first | with_reducible exact size25 | (rw [size25]; simp [hv])); simp only [Act.put, List.setIfInBounds_toArray, List.set_cons_zero, List.set_cons_succ]))
  refine (HLM.out _).mono ?_
  rintro e w2 ⟨rfl, K⟩
  replace M := M.call K
  clear K HLM
  go_wp2_with (first
    | ((with_reducible apply W_sliceArr (l := 0) (h := 8) (m := 8)); rfl; exact Salg.underlying183; exact size23; (first | exact Or.inl ⟨rfl, rfl⟩ | exact Or.inr ⟨_, _, _, rfl, rfl, by omega⟩); (first | exact Or.inl ⟨rfl, rfl⟩ | exact Or.inr ⟨_, _, _, rfl, rfl, by omega⟩); (first | exact Or.inl ⟨rfl, rfl⟩ | exact Or.inr ⟨_, _, _, rfl, rfl, by omega⟩); (first | exact Or.inl rfl | exact Or.inr rfl); omega; omega; omega; omega; (try simp only [Nat.zero_add, Nat.sub_zero]); simp only [Act.put, List.setIfInBounds_toArray, List.set_cons_zero, List.set_cons_succ])
    | ((with_reducible apply W_clear64); rfl; decide; exact Salg.underlying198; exact zero23; exact M.r3; exact hx; intro w3 K hr3; replace M := Mem.callPut (L1 := [_, _, _]) M (Or.inl (by simp)) K hr3; clear K hr3; simp only [List.cons_append, List.nil_append] at M))
  refine S_region (by kernel_rfl) ?_
  refine V_quiet 0 4 (by kernel_rfl) (by decide) M.drew ?_
  clear M
  simp only [List.take_succ_cons, List.take_zero, List.drop_zero, List.drop_succ_cons, Nat.sub_zero, Nat.reduceSub]
  ((with_reducible apply V_run); rfl; (intro w M; exact run_loadAll (by (first | with_reducible exact M.r0 | with_reducible exact M.r1 | with_reducible exact M.r2 | with_reducible exact M.r3 | with_reducible exact M.r4 | with_reducible exact M.r5 | with_reducible exact M.r6 | assumption | exact M.kept.row (by assumption) (by simp))) rfl Salg.underlying25 rfl (by first | with_reducible exact size25 | (rw [size25]; simp []))); simp only [Act.put, List.setIfInBounds_toArray, List.set_cons_zero, List.set_cons_succ])
  ((with_reducible apply V_run); rfl; (intro w M; exact run_loadAll (by (first | with_reducible exact M.r0 | with_reducible exact M.r1 | with_reducible exact M.r2 | with_reducible exact M.r3 | with_reducible exact M.r4 | with_reducible exact M.r5 | with_reducible exact M.r6 | assumption | exact M.kept.row (by assumption) (by simp))) rfl Salg.underlying178 rfl (by first | with_reducible exact size178 | (rw [size178]; simp []))); simp only [Act.put, List.setIfInBounds_toArray, List.set_cons_zero, List.set_cons_succ])
  ((with_reducible apply V_same); rfl; rfl; exact fun w M => M.r1; exact size25; exact one64 _)
  ((with_reducible apply V_same); rfl; rfl; exact fun w M => M.r0; exact size178; exact one8 _)
  refine V_nil ?_
  intro w4 M
  refine S_done ?_
  go_wp2_with fail
  exact ret_cell2 Salg.results201 rfl M.r1 Salg.underlying25 rfl size25 rfl M.r0 Salg.underlying178 rfl size178 rfl ⟨rfl, M.kept, M.r3⟩
-- LESS
set_option maxHeartbeats 1000000 in
set_option maxRecDepth 100000 in
theorem divide_less (bx tx n : Nat) (xs vs : List Nat) (w : World) (hr : w.heap[bx]? = some (R64 tx xs)) (hx : xs.length = 8) (hv : vs.length = 4) (hn : tl vs 4 = n) (hn0 : 0 < n) (hn4 : n ≤ 4) (hlt : tl xs 8 < n) :
    Calls Salg.prog 201 #[.pointer (some ⟨bx, 0, none⟩), A64 vs] w fun e w' =>
      e = .returned (.tuple #[A64 (xs.take 4), A8 (List.replicate 3 0)]) ∧ Kept [bx] w w' ∧ w'.heap[bx]? = some (R64 tx (List.replicate 8 0)) := by
  have M : Mem w [bx] [(bx, R64 tx xs)] w := (Mem.start w [bx]).add hr (by simp)
  have HLM := hid (fun w => limbs_any vs w hv)
  simp only [hn] at HLM
  clear hr
  go_enter Salg.func201, Salg.ntmps201
  go_wp2_with (first
    | ((with_reducible apply L_box (d := 3) M); rfl; clear M; intro b1 w1 hb1 M; simp only [Act.put, List.setIfInBounds_toArray, List.set_cons_zero, List.set_cons_succ])
    | ((with_reducible apply L_allocA M); exact zero25; clear M; intro b2 w1 hb2 M; simp only [Act.put, List.setIfInBounds_toArray, List.set_cons_zero, List.set_cons_succ])
    | ((with_reducible apply L_allocA M); exact zero178; clear M; intro b3 w1 hb3 M; simp only [Act.put, List.setIfInBounds_toArray, List.set_cons_zero, List.set_cons_succ])
    | ((with_reducible apply W_loadAll); rfl; (first | with_reducible exact M.r0 | with_reducible exact M.r1 | with_reducible exact M.r2 | with_reducible exact M.r3 | with_reducible exact M.r4 | with_reducible exact M.r5 | with_reducible exact M.r6 | assumption | exact M.kept.row (by assumption) (by simp)); exact Salg.underlying25; rfl; (first | with_reducible exact size25 | (rw [size25]; simp [hv])); simp only [Act.put, List.setIfInBounds_toArray, List.set_cons_zero, List.set_cons_succ]))
  refine (HLM.out _).mono ?_
  rintro e w2 ⟨rfl, K⟩
  replace M := M.call K
  clear K HLM
  go_wp2_with fail
  go_loop [7] (fun i => ∃ k : Nat, k ≤ 8 ∧ i = .int .u8 k ∧ tl xs k = tl xs 8) (fun i => (intOf i).toNat)
  case atStart => exact ⟨8, by omega, rfl, rfl⟩
  case round =>
    obtain ⟨k, hk, rfl, ht⟩ := hrel
    have HT := hid ht
    clear ht
    match k, hk, HT with
    | 0, hk, HT =>
      have dl : decide ((0 : Int) < (n : Int)) = true := by simp; omega
      have dl2 : decide (0 < n) = true := by simp; omega
      go_wp2_with (first
          | ((with_reducible apply W_loadCellG); rfl; rfl; (first | with_reducible exact M.r0 | with_reducible exact M.r1 | with_reducible exact M.r2 | with_reducible exact M.r3 | with_reducible exact M.r4 | with_reducible exact M.r5 | with_reducible exact M.r6 | assumption | exact M.kept.row (by assumption) (by simp)); (first | exact get_map (by assumption) | exact get_map rfl | rfl); exact Salg.underlying23; rfl; simp only [Act.put, List.setIfInBounds_toArray, List.set_cons_zero, List.set_cons_succ])
          | ((with_reducible apply W_sliceArr (l := 0) (h := 8) (m := 8)); rfl; exact Salg.underlying183; exact size23; (first | exact Or.inl ⟨rfl, rfl⟩ | exact Or.inr ⟨_, _, _, rfl, rfl, by omega⟩); (first | exact Or.inl ⟨rfl, rfl⟩ | exact Or.inr ⟨_, _, _, rfl, rfl, by omega⟩); (first | exact Or.inl ⟨rfl, rfl⟩ | exact Or.inr ⟨_, _, _, rfl, rfl, by omega⟩); (first | exact Or.inl rfl | exact Or.inr rfl); omega; omega; omega; omega; (try simp only [Nat.zero_add, Nat.sub_zero]); simp only [Act.put, List.setIfInBounds_toArray, List.set_cons_zero, List.set_cons_succ])
          | ((with_reducible apply W_sliceArr (l := 0) (h := 4) (m := 8)); rfl; exact Salg.underlying183; exact size23; (first | exact Or.inl ⟨rfl, rfl⟩ | exact Or.inr ⟨_, _, _, rfl, rfl, by omega⟩); (first | exact Or.inl ⟨rfl, rfl⟩ | exact Or.inr ⟨_, _, _, rfl, rfl, by omega⟩); (first | exact Or.inl ⟨rfl, rfl⟩ | exact Or.inr ⟨_, _, _, rfl, rfl, by omega⟩); (first | exact Or.inl rfl | exact Or.inr rfl); omega; omega; omega; omega; (try simp only [Nat.zero_add, Nat.sub_zero]); simp only [Act.put, List.setIfInBounds_toArray, List.set_cons_zero, List.set_cons_succ])
          | ((with_reducible apply W_arrayAt); rfl; exact Salg.underlying25; omega; simp only [Act.put, List.setIfInBounds_toArray, List.set_cons_zero, List.set_cons_succ])
          | ((with_reducible apply W_load); rfl; exact M.r3; exact Salg.underlying25; rfl; exact size25; (simp [hx]); rw [show (4 : Nat) = 0 + 4 from rfl, extract_map, List.drop_zero]; simp only [Act.put, List.setIfInBounds_toArray, List.set_cons_zero, List.set_cons_succ])
          | ((with_reducible apply W_storeK (b := b2) (vs := ((xs.take 4).map n64).toArray)); rfl; (rw [List.map_take]; rfl); exact M.r1; exact size25; (simp [hx]); exact one64 _; intro w3 K hr3; replace M := Mem.callPut (L1 := [_]) M (Or.inr (by assumption)) K hr3; clear K hr3; simp only [List.cons_append, List.nil_append] at M)
          | ((with_reducible apply W_clear64); rfl; decide; exact Salg.underlying198; exact zero23; exact M.r3; (first | exact hx | simp [hx]); intro w3 K hr3; replace M := Mem.callPut (L1 := [_, _, _]) M (Or.inl (by simp)) K hr3; clear K hr3; simp only [List.cons_append, List.nil_append] at M))
      refine S_region (by kernel_rfl) ?_
      refine V_quiet 0 4 (by kernel_rfl) (by decide) M.drew ?_
      clear M
      simp only [List.take_succ_cons, List.take_zero, List.drop_zero, List.drop_succ_cons, Nat.sub_zero, Nat.reduceSub]
      ((with_reducible apply V_run); rfl; (intro w M; exact run_loadAll (by (first | with_reducible exact M.r0 | with_reducible exact M.r1 | with_reducible exact M.r2 | with_reducible exact M.r3 | with_reducible exact M.r4 | with_reducible exact M.r5 | with_reducible exact M.r6 | assumption | exact M.kept.row (by assumption) (by simp))) rfl Salg.underlying25 rfl (by first | with_reducible exact size25 | (rw [size25]; simp [hx]))); simp only [Act.put, List.setIfInBounds_toArray, List.set_cons_zero, List.set_cons_succ])
      ((with_reducible apply V_run); rfl; (intro w M; exact run_loadAll (by (first | with_reducible exact M.r0 | with_reducible exact M.r1 | with_reducible exact M.r2 | with_reducible exact M.r3 | with_reducible exact M.r4 | with_reducible exact M.r5 | with_reducible exact M.r6 | assumption | exact M.kept.row (by assumption) (by simp))) rfl Salg.underlying178 rfl (by first | with_reducible exact size178 | (rw [size178]; simp []))); simp only [Act.put, List.setIfInBounds_toArray, List.set_cons_zero, List.set_cons_succ])
      ((with_reducible apply V_same); rfl; rfl; exact fun w M => M.r1; (first | exact size25 | (rw [size25]; simp [hx])); exact one64 _)
      ((with_reducible apply V_same); rfl; rfl; exact fun w M => M.r0; exact size178; exact one8 _)
      refine V_nil ?_
      intro w9 M
      refine S_done ?_
      go_wp2_with fail
      exact ret_cell2 Salg.results201 rfl M.r1 Salg.underlying25 rfl (by rw [size25]; simp [hx]) rfl M.r0 Salg.underlying178 rfl size178 rfl ⟨rfl, M.kept, M.r3⟩
    | k + 1, hk, HT =>
      have hg : xs[k]? = some xs[k] := List.getElem?_eq_getElem (by omega)
      have hgd : xs.getD k 0 = xs[k] := getD_get (by omega)
      by_cases h0 : xs[k] = 0
      · have HT' : Hid (tl xs k = tl xs 8) := by have := HT.out; simp only [tl, hgd, h0, if_true] at this; exact this
        clear HT hgd
        rw [h0] at hg
        go_wp2_with ((with_reducible apply W_loadCellG); rfl; rfl; (first | with_reducible exact M.r0 | with_reducible exact M.r1 | with_reducible exact M.r2 | with_reducible exact M.r3 | with_reducible exact M.r4 | with_reducible exact M.r5 | with_reducible exact M.r6 | assumption | exact M.kept.row (by assumption) (by simp)); (first | exact get_map (by assumption) | exact get_map rfl | rfl); exact Salg.underlying23; rfl; simp only [Act.put, List.setIfInBounds_toArray, List.set_cons_zero, List.set_cons_succ])
        go_round
        case rel => exact ⟨k, by omega, by go_num, HT'.out⟩
        case measure => simp [intOf]
      · have hkt : k + 1 = tl xs 8 := by have := HT.out; simp only [tl, hgd, h0, if_false] at this; exact this
        have hne : ((xs[k] : Int) == 0) = false := by rw [beq_eq_false_iff_ne]; omega
        clear HT hgd h0
        generalize xs[k] = x at *
        have dl : decide ((k : Int) + 1 < (n : Int)) = true := by simp; omega
        have dl2 : decide ((k + 1) < n) = true := by simp; omega
        clear hkt
        go_wp2_with (first
            | ((with_reducible apply W_loadCellG); rfl; rfl; (first | with_reducible exact M.r0 | with_reducible exact M.r1 | with_reducible exact M.r2 | with_reducible exact M.r3 | with_reducible exact M.r4 | with_reducible exact M.r5 | with_reducible exact M.r6 | assumption | exact M.kept.row (by assumption) (by simp)); (first | exact get_map (by assumption) | exact get_map rfl | rfl); exact Salg.underlying23; rfl; simp only [Act.put, List.setIfInBounds_toArray, List.set_cons_zero, List.set_cons_succ])
            | ((with_reducible apply W_sliceArr (l := 0) (h := 8) (m := 8)); rfl; exact Salg.underlying183; exact size23; (first | exact Or.inl ⟨rfl, rfl⟩ | exact Or.inr ⟨_, _, _, rfl, rfl, by omega⟩); (first | exact Or.inl ⟨rfl, rfl⟩ | exact Or.inr ⟨_, _, _, rfl, rfl, by omega⟩); (first | exact Or.inl ⟨rfl, rfl⟩ | exact Or.inr ⟨_, _, _, rfl, rfl, by omega⟩); (first | exact Or.inl rfl | exact Or.inr rfl); omega; omega; omega; omega; (try simp only [Nat.zero_add, Nat.sub_zero]); simp only [Act.put, List.setIfInBounds_toArray, List.set_cons_zero, List.set_cons_succ])
            | ((with_reducible apply W_sliceArr (l := 0) (h := 4) (m := 8)); rfl; exact Salg.underlying183; exact size23; (first | exact Or.inl ⟨rfl, rfl⟩ | exact Or.inr ⟨_, _, _, rfl, rfl, by omega⟩); (first | exact Or.inl ⟨rfl, rfl⟩ | exact Or.inr ⟨_, _, _, rfl, rfl, by omega⟩); (first | exact Or.inl ⟨rfl, rfl⟩ | exact Or.inr ⟨_, _, _, rfl, rfl, by omega⟩); (first | exact Or.inl rfl | exact Or.inr rfl); omega; omega; omega; omega; (try simp only [Nat.zero_add, Nat.sub_zero]); simp only [Act.put, List.setIfInBounds_toArray, List.set_cons_zero, List.set_cons_succ])
            | ((with_reducible apply W_arrayAt); rfl; exact Salg.underlying25; omega; simp only [Act.put, List.setIfInBounds_toArray, List.set_cons_zero, List.set_cons_succ])
            | ((with_reducible apply W_load); rfl; exact M.r3; exact Salg.underlying25; rfl; exact size25; (simp [hx]); rw [show (4 : Nat) = 0 + 4 from rfl, extract_map, List.drop_zero]; simp only [Act.put, List.setIfInBounds_toArray, List.set_cons_zero, List.set_cons_succ])
            | ((with_reducible apply W_storeK (b := b2) (vs := ((xs.take 4).map n64).toArray)); rfl; (rw [List.map_take]; rfl); exact M.r1; exact size25; (simp [hx]); exact one64 _; intro w3 K hr3; replace M := Mem.callPut (L1 := [_]) M (Or.inr (by assumption)) K hr3; clear K hr3; simp only [List.cons_append, List.nil_append] at M)
            | ((with_reducible apply W_clear64); rfl; decide; exact Salg.underlying198; exact zero23; exact M.r3; (first | exact hx | simp [hx]); intro w3 K hr3; replace M := Mem.callPut (L1 := [_, _, _]) M (Or.inl (by simp)) K hr3; clear K hr3; simp only [List.cons_append, List.nil_append] at M))
        refine S_region (by kernel_rfl) ?_
        refine V_quiet 0 4 (by kernel_rfl) (by decide) M.drew ?_
        clear M
        simp only [List.take_succ_cons, List.take_zero, List.drop_zero, List.drop_succ_cons, Nat.sub_zero, Nat.reduceSub]
        ((with_reducible apply V_run); rfl; (intro w M; exact run_loadAll (by (first | with_reducible exact M.r0 | with_reducible exact M.r1 | with_reducible exact M.r2 | with_reducible exact M.r3 | with_reducible exact M.r4 | with_reducible exact M.r5 | with_reducible exact M.r6 | assumption | exact M.kept.row (by assumption) (by simp))) rfl Salg.underlying25 rfl (by first | with_reducible exact size25 | (rw [size25]; simp [hx]))); simp only [Act.put, List.setIfInBounds_toArray, List.set_cons_zero, List.set_cons_succ])
        ((with_reducible apply V_run); rfl; (intro w M; exact run_loadAll (by (first | with_reducible exact M.r0 | with_reducible exact M.r1 | with_reducible exact M.r2 | with_reducible exact M.r3 | with_reducible exact M.r4 | with_reducible exact M.r5 | with_reducible exact M.r6 | assumption | exact M.kept.row (by assumption) (by simp))) rfl Salg.underlying178 rfl (by first | with_reducible exact size178 | (rw [size178]; simp []))); simp only [Act.put, List.setIfInBounds_toArray, List.set_cons_zero, List.set_cons_succ])
        ((with_reducible apply V_same); rfl; rfl; exact fun w M => M.r1; (first | exact size25 | (rw [size25]; simp [hx])); exact one64 _)
        ((with_reducible apply V_same); rfl; rfl; exact fun w M => M.r0; exact size178; exact one8 _)
        refine V_nil ?_
        intro w9 M
        refine S_done ?_
        go_wp2_with fail
        exact ret_cell2 Salg.results201 rfl M.r1 Salg.underlying25 rfl (by rw [size25]; simp [hx]) rfl M.r0 Salg.underlying178 rfl size178 rfl ⟨rfl, M.kept, M.r3⟩

-- ONE
set_option maxHeartbeats 1000000 in
set_option maxRecDepth 100000 in
theorem divide_one (bx tx top y : Nat) (xs vs : List Nat) (w : World) (hr : w.heap[bx]? = some (R64 tx xs)) (hx : xs.length = 8) (hv : vs.length = 4) (hL : Limbs xs) (hn : tl vs 4 = 1) (htop : tl xs 8 = top) (h1 : 1 ≤ top) (h8 : top ≤ 8)
    (hz : lval (xs.drop top) = 0) (hg0 : vs[0]? = some y) (hy : 0 < y) (hyl : y < 18446744073709551616) :
    Calls Salg.prog 201 #[.pointer (some ⟨bx, 0, none⟩), A64 vs] w fun e w' =>
      e = .returned (.tuple #[A64 [lval xs % y, 0, 0, 0], A8 [top, 0, 0]]) ∧ Kept [bx] w w' ∧ w'.heap[bx]? = some (R64 tx (nl 8 (lval xs / y))) := by
  have M : Mem w [bx] [(bx, R64 tx xs)] w := (Mem.start w [bx]).add hr (by simp)
  have HS := hid (fun (w : World) (h : w.heap[bx]? = some (R64 tx xs)) => short_any bx tx top y xs w h hx hL h8 hz hy hyl)
  have HTOP := hid htop
  clear htop hL hz
  have HLM := hid (fun w => limbs_any vs w hv)
  simp only [hn] at HLM
  clear hr hn
  go_enter Salg.func201, Salg.ntmps201
  go_wp2_with (first
    | ((with_reducible apply L_box (d := 3) M); rfl; clear M; intro b1 w1 hb1 M; simp only [Act.put, List.setIfInBounds_toArray, List.set_cons_zero, List.set_cons_succ])
    | ((with_reducible apply L_allocA M); exact zero25; clear M; intro b2 w1 hb2 M; simp only [Act.put, List.setIfInBounds_toArray, List.set_cons_zero, List.set_cons_succ])
    | ((with_reducible apply L_allocA M); exact zero178; clear M; intro b3 w1 hb3 M; simp only [Act.put, List.setIfInBounds_toArray, List.set_cons_zero, List.set_cons_succ])
    | ((with_reducible apply W_loadAll); rfl; (first | with_reducible exact M.r0 | with_reducible exact M.r1 | with_reducible exact M.r2 | with_reducible exact M.r3 | with_reducible exact M.r4 | with_reducible exact M.r5 | with_reducible exact M.r6 | assumption | exact M.kept.row (by assumption) (by simp)); exact Salg.underlying25; rfl; (first | with_reducible exact size25 | (rw [size25]; simp [hv])); simp only [Act.put, List.setIfInBounds_toArray, List.set_cons_zero, List.set_cons_succ]))
  refine (HLM.out _).mono ?_
  rintro e w2 ⟨rfl, K⟩
  replace M := M.call K
  clear K HLM
  go_wp2_with fail
  go_loop [7] (fun i => ∃ k : Nat, k ≤ 8 ∧ i = .int .u8 k ∧ tl xs k = tl xs 8) (fun i => (intOf i).toNat)
  case atStart => exact ⟨8, by omega, rfl, rfl⟩
  case round =>
    obtain ⟨k, hk, rfl, ht⟩ := hrel
    have HT := hid ht
    clear ht
    match k, hk, HT with
    | 0, hk, HT => exact absurd (show tl xs 8 = 0 from HT.out.symm) (by have := HTOP.out; omega)
    | k + 1, hk, HT =>
      have hg : xs[k]? = some xs[k] := List.getElem?_eq_getElem (by omega)
      have hgd : xs.getD k 0 = xs[k] := getD_get (by omega)
      by_cases h0 : xs[k] = 0
      · have HT' : Hid (tl xs k = tl xs 8) := by have := HT.out; simp only [tl, hgd, h0, if_true] at this; exact this
        clear HT hgd
        rw [h0] at hg
        go_wp2_with ((with_reducible apply W_loadCellG); rfl; rfl; (first | with_reducible exact M.r0 | with_reducible exact M.r1 | with_reducible exact M.r2 | with_reducible exact M.r3 | with_reducible exact M.r4 | with_reducible exact M.r5 | with_reducible exact M.r6 | assumption | exact M.kept.row (by assumption) (by simp)); (first | exact get_map (by assumption) | exact get_map rfl | rfl); exact Salg.underlying23; rfl; simp only [Act.put, List.setIfInBounds_toArray, List.set_cons_zero, List.set_cons_succ])
        go_round
        case rel => exact ⟨k, by omega, by go_num, HT'.out⟩
        case measure => simp [intOf]
      · have hkt : k + 1 = tl xs 8 := by have := HT.out; simp only [tl, hgd, h0, if_false] at this; exact this
        have hne : ((xs[k] : Int) == 0) = false := by rw [beq_eq_false_iff_ne]; omega
        clear HT hgd h0
        generalize xs[k] = x at *
        have dl : decide ((k : Int) + 1 < (1 : Int)) = false := by simp; omega
        have dl2 : decide (k + 1 < 1) = false := by simp
        obtain rfl : top = k + 1 := by have := HTOP.out; omega
        clear hkt HTOP
        go_wp2_with (first
          | ((with_reducible apply W_loadCellG); rfl; rfl; (first | with_reducible exact M.r0 | with_reducible exact M.r1 | with_reducible exact M.r2 | with_reducible exact M.r3 | with_reducible exact M.r4 | with_reducible exact M.r5 | with_reducible exact M.r6 | assumption | exact M.kept.row (by assumption) (by simp)); (first | exact get_map (by assumption) | exact get_map rfl | rfl); exact Salg.underlying23; rfl; simp only [Act.put, List.setIfInBounds_toArray, List.set_cons_zero, List.set_cons_succ])
          | ((with_reducible apply W_loadCell); rfl; exact M.r2; exact get_map hg0; exact Salg.underlying23; rfl; simp only [Act.put, List.setIfInBounds_toArray, List.set_cons_zero, List.set_cons_succ])
          | ((with_reducible apply W_st8K (b := b3) (o := 0) (m := k + 1)); rfl; rfl; (first | rfl | omega | go_num); exact M.r0; exact size5; decide; intro w3 K hr3; replace M := Mem.callPut (L1 := []) M (Or.inr (by assumption)) K hr3; clear K hr3; simp only [List.cons_append, List.nil_append] at M))
        refine (HS.out _ M.r3).mono ?_
        rintro e w4 ⟨rfl, K, hr4⟩
        replace M := Mem.callPut (L1 := [_, _, _]) M (Or.inl (by simp)) K hr4
        simp only [List.cons_append, List.nil_append] at M
        clear K hr4 HS
        go_wp2_with ((with_reducible apply W_st64K (b := b2) (o := 0) (m := lval xs % y)); rfl; rfl; rfl; exact M.r1; exact size23; decide; intro w3 K hr3; replace M := Mem.callPut (L1 := [_]) M (Or.inr (by assumption)) K hr3; clear K hr3; simp only [List.cons_append, List.nil_append] at M)
        refine S_region (by kernel_rfl) ?_
        refine V_quiet 0 4 (by kernel_rfl) (by decide) M.drew ?_
        clear M
        simp only [List.take_succ_cons, List.take_zero, List.drop_zero, List.drop_succ_cons, Nat.sub_zero, Nat.reduceSub]
        ((with_reducible apply V_run); rfl; (intro w M; exact run_loadAll (by (first | with_reducible exact M.r0 | with_reducible exact M.r1 | with_reducible exact M.r2 | with_reducible exact M.r3 | with_reducible exact M.r4 | with_reducible exact M.r5 | with_reducible exact M.r6 | assumption | exact M.kept.row (by assumption) (by simp))) rfl Salg.underlying25 rfl (by first | with_reducible exact size25 | (rw [size25]; simp [hx]))); simp only [Act.put, List.setIfInBounds_toArray, List.set_cons_zero, List.set_cons_succ])
        ((with_reducible apply V_run); rfl; (intro w M; exact run_loadAll (by (first | with_reducible exact M.r0 | with_reducible exact M.r1 | with_reducible exact M.r2 | with_reducible exact M.r3 | with_reducible exact M.r4 | with_reducible exact M.r5 | with_reducible exact M.r6 | assumption | exact M.kept.row (by assumption) (by simp))) rfl Salg.underlying178 rfl (by first | with_reducible exact size178 | (rw [size178]; simp []))); simp only [Act.put, List.setIfInBounds_toArray, List.set_cons_zero, List.set_cons_succ])
        ((with_reducible apply V_same); rfl; rfl; exact fun w M => M.r1; (first | exact size25 | (rw [size25]; simp [hx])); exact one64 _)
        ((with_reducible apply V_same); rfl; rfl; exact fun w M => M.r0; exact size178; exact one8 _)
        refine V_nil ?_
        intro w9 M
        refine S_done ?_
        go_wp2_with fail
        exact ret_cell2 Salg.results201 rfl M.r1 Salg.underlying25 rfl size25 rfl M.r0 Salg.underlying178 rfl size178 rfl ⟨rfl, M.kept, M.r3⟩
end Go.Proofs.YgcsalGreat

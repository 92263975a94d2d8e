/-
  The walk of u256.divide where the divisor has two limbs or more.
-/
import Derived.Test.YgcsalGreatDivide
set_option linter.unusedSimpArgs false
namespace Go.Proofs.YgcsalGreat
open Go.RowKit Go.Own

set_option maxHeartbeats 4000000 in
set_option maxRecDepth 100000 in
theorem divide_long (bx tx n top s t : Nat) (xs vs us0 zs : List Nat) (w : World) (hr : w.heap[bx]? = some (R64 tx xs)) (hx : xs.length = 8) (hv : vs.length = 4) (hL : Limbs xs) (hLv : Limbs vs) (hn : tl vs 4 = n) (hn2 : 2 ≤ n) (hn4 : n ≤ 4)
    (htop : tl xs 8 = top) (hle : n ≤ top) (h8 : top ≤ 8) (hgt : vs[n - 1]? = some t) (htl : t < 18446744073709551616) (hs : 64 - blen t = s) (hs64 : s < 64) (N : Nrm zs n) (G : GoodD us0 zs n (top - n + 1))
    (hzs : zs = nl 4 (lval vs * 2 ^ s)) (hus : us0 = nl 9 (lval xs * 2 ^ s)) (hzv : lval zs = lval vs * 2 ^ s) (huv : lval us0 = lval xs * 2 ^ s) (hV : lval vs ≠ 0) :
    Calls Salg.prog 201 #[.pointer (some ⟨bx, 0, none⟩), A64 vs] w fun e w' =>
      e = .returned (.tuple #[A64 (nl 4 (lval xs % lval vs)), A8 [top - n + 1, (runs zs n (top - n + 1) us0).1, (runs zs n (top - n + 1) us0).2]]) ∧ Kept [bx] w w' ∧ w'.heap[bx]? = some (R64 tx (nl 8 (lval xs / lval vs))) := by
  have M : Mem w [bx] [(bx, R64 tx xs)] w := (Mem.start w [bx]).add hr (by simp)
  have HTOP := hid htop
  have HLZ := hid (fun w => lz64_any t htl w)
  rw [hs] at HLZ
  have HUP := hid (fun (b : Nat) (w : World) (h : w.heap[b]? = some (R64 276 (xs ++ [0]))) => shiftUp_any b 276 9 s (xs ++ [0]) w h (by intro x hx; rcases List.mem_append.1 hx with h | h; exact hL x h; simp at h; omega) (by simp [hx]) (by simp [hx]) hs64)
  have HUV := hid (fun (b : Nat) (w : World) (h : w.heap[b]? = some (R64 25 vs)) => shiftUp_any b 25 4 s vs w h hLv (by omega) (by omega) hs64)
  have HUE : Hid (∀ l' : List Nat, l'.length = (xs ++ [0]).length → Limbs l' → lval (l'.take 9) = lval ((xs ++ [0]).take 9) * 2 ^ s % 18446744073709551616 ^ 9 → l' = us0) := fun l' h1 h2 h3 => by
    have h1' : l'.length = 9 := by rw [h1]; simp [hx]
    rw [List.take_of_length_le (by omega), List.take_of_length_le (by simp [hx]), lval_append, show lval [0] = 0 from rfl, Nat.mul_zero, Nat.add_zero] at h3
    rw [hus]
    refine eq_nl h2 h1' ?_
    rw [h3, ← huv, Nat.mod_eq_of_lt]
    have := lval_lt G.limbs
    rw [G.len] at this
    exact this
  have HVE : Hid (∀ l' : List Nat, l'.length = vs.length → Limbs l' → lval (l'.take 4) = lval (vs.take 4) * 2 ^ s % 18446744073709551616 ^ 4 → l' = zs) := fun l' h1 h2 h3 => by
    rw [List.take_of_length_le (by omega), List.take_of_length_le (by omega)] at h3
    rw [hzs]
    refine eq_nl h2 (by omega) ?_
    rw [h3, ← hzv, Nat.mod_eq_of_lt]
    have := lval_lt N.limbs
    rw [N.len] at this
    exact this
  have HG0 := hid G
  have HN := hid N
  have HRL := hid (GoodD.runs_le N _ _ G)
  have HEND : Hid (∀ us qs : List Nat, GoodD us zs n 0 → Limbs qs → qs.length = 8 → lval qs * lval zs + lval us = lval xs * 2 ^ s → qs = nl 8 (lval xs / lval vs) ∧ lval (us.take 4) / 2 ^ s = lval xs % lval vs) := fun us qs g hl hq h => by
    obtain ⟨h1, h2⟩ := div_end N g hzv hV h
    exact ⟨eq_nl hl hq h1, h2⟩
  have HZ0 : Hid (lval (List.replicate 8 0) * lval zs + lval us0 = lval xs * 2 ^ s) := by show _ = _; rw [show lval (List.replicate 8 0) = 0 from rfl, Nat.zero_mul, Nat.zero_add, huv]
  clear htop hs hL hLv htl hzs hus hzv huv hV N G
  generalize lval xs / lval vs = QQ at *
  generalize lval xs % lval vs = RR at *
  generalize lval xs * 2 ^ s = X2 at *
  obtain ⟨FF, HFF⟩ : ∃ x, Hid (x = (runs zs n (top - n + 1) us0).1) := ⟨_, rfl⟩
  obtain ⟨BB, HBB⟩ : ∃ x, Hid (x = (runs zs n (top - n + 1) us0).2) := ⟨_, rfl⟩
  rw [← HFF.out, ← HBB.out] at HRL ⊢
  obtain ⟨m, hm⟩ : ∃ m, m = top - n + 1 := ⟨_, rfl⟩
  rw [← hm] at HRL HFF HBB HG0 ⊢
  have hm7 : m ≤ 7 := by omega
  have hFF : FF ≤ 14 := by have := HRL.out; omega
  have hBB : BB ≤ 7 := by have := HRL.out; omega
  clear HRL
  have HLM := hid (fun w => limbs_any vs w hv)
  simp only [hn] at HLM
  clear hr
  go_enter Salg.func201, Salg.ntmps201
  go_wp2_with (first
    | ((with_reducible apply L_box (d := 3) M); rfl; clear M; intro b1 w1 hb1 M; simp only [Act.put, List.setIfInBounds_toArray, List.set_cons_zero, List.set_cons_succ])
    | ((with_reducible apply L_allocA M); exact zero25; clear M; intro b2 w1 hb2 M; simp only [Act.put, List.setIfInBounds_toArray, List.set_cons_zero, List.set_cons_succ])
    | ((with_reducible apply L_allocA M); exact zero178; clear M; intro b3 w1 hb3 M; simp only [Act.put, List.setIfInBounds_toArray, List.set_cons_zero, List.set_cons_succ])
    | ((with_reducible apply W_loadAll); rfl; (first | with_reducible exact M.r0 | with_reducible exact M.r1 | with_reducible exact M.r2 | with_reducible exact M.r3 | with_reducible exact M.r4 | with_reducible exact M.r5 | with_reducible exact M.r6 | assumption | exact M.kept.row (by assumption) (by simp)); exact Salg.underlying25; rfl; (first | with_reducible exact size25 | (rw [size25]; simp [hv])); simp only [Act.put, List.setIfInBounds_toArray, List.set_cons_zero, List.set_cons_succ]))
  refine (HLM.out _).mono ?_
  rintro e w2 ⟨rfl, K⟩
  replace M := M.call K
  clear K HLM
  go_wp2_with fail
  go_loop [7] (fun i => ∃ k : Nat, k ≤ 8 ∧ i = .int .u8 k ∧ tl xs k = tl xs 8) (fun i => (intOf i).toNat)
  case atStart => exact ⟨8, by omega, rfl, rfl⟩
  case round =>
    obtain ⟨k, hk, rfl, ht⟩ := hrel
    have HT := hid ht
    clear ht
    match k, hk, HT with
    | 0, hk, HT => exact absurd (show tl xs 8 = 0 from HT.out.symm) (by have := HTOP.out; omega)
    | k + 1, hk, HT =>
      have hg : xs[k]? = some xs[k] := List.getElem?_eq_getElem (by omega)
      have hgd : xs.getD k 0 = xs[k] := getD_get (by omega)
      by_cases h0 : xs[k] = 0
      · have HT' : Hid (tl xs k = tl xs 8) := by have := HT.out; simp only [tl, hgd, h0, if_true] at this; exact this
        clear HT hgd
        rw [h0] at hg
        go_wp2_with ((with_reducible apply W_loadCellG); rfl; rfl; (first | with_reducible exact M.r0 | with_reducible exact M.r1 | with_reducible exact M.r2 | with_reducible exact M.r3 | with_reducible exact M.r4 | with_reducible exact M.r5 | with_reducible exact M.r6 | assumption | exact M.kept.row (by assumption) (by simp)); (first | exact get_map (by assumption) | exact get_map rfl | rfl); exact Salg.underlying23; rfl; simp only [Act.put, List.setIfInBounds_toArray, List.set_cons_zero, List.set_cons_succ])
        go_round
        case rel => exact ⟨k, by omega, by go_num, HT'.out⟩
        case measure => simp [intOf]
      · have hkt : k + 1 = tl xs 8 := by have := HT.out; simp only [tl, hgd, h0, if_false] at this; exact this
        have hne : ((xs[k] : Int) == 0) = false := by rw [beq_eq_false_iff_ne]; omega
        clear HT hgd h0
        generalize xs[k] = x at *
        have dl : decide ((k : Int) + 1 < (n : Int)) = false := by simp; have := HTOP.out; omega
        have dl2 : decide (k + 1 < n) = false := by simp; have := HTOP.out; omega
        have dn : ((n : Int) == 1) = false := by rw [beq_eq_false_iff_ne]; omega
        obtain rfl : top = k + 1 := by have := HTOP.out; omega
        clear hkt HTOP
        go_wp2_with (first
          | ((with_reducible apply W_loadCellG); rfl; rfl; (first | with_reducible exact M.r0 | with_reducible exact M.r1 | with_reducible exact M.r2 | with_reducible exact M.r3 | with_reducible exact M.r4 | with_reducible exact M.r5 | with_reducible exact M.r6 | assumption | exact M.kept.row (by assumption) (by simp)); (first | exact get_map (by assumption) | exact get_map rfl | rfl); exact Salg.underlying23; rfl; simp only [Act.put, List.setIfInBounds_toArray, List.set_cons_zero, List.set_cons_succ])
          | ((with_reducible apply W_st8K (b := b3) (o := 0) (m := m)); rfl; rfl; (first | rfl | omega | go_num); exact M.r0; exact size5; decide; intro w3 K hr3; replace M := Mem.callPut (L1 := []) M (Or.inr (by assumption)) K hr3; clear K hr3; simp only [List.cons_append, List.nil_append] at M)
          | ((with_reducible apply L_allocA M); exact zero276; clear M; intro b4 w1 hb4 M; simp only [Act.put, List.setIfInBounds_toArray, List.set_cons_zero, List.set_cons_succ]))
        refine S_region (by kernel_rfl) ?_
        refine V_quiet 0 4 (by kernel_rfl) (by decide) M.drew ?_
        clear M
        simp only [List.take_succ_cons, List.take_zero, List.drop_zero, List.drop_succ_cons, Nat.sub_zero, Nat.reduceSub]
        ((with_reducible apply V_run); rfl; (intro w M; exact run_sliceArr (l := 0) (h := 9) (m := 9) rfl Salg.underlying276 size23 (by (first | exact Or.inl ⟨rfl, rfl⟩ | exact Or.inr ⟨_, _, _, rfl, rfl, by omega⟩)) (by (first | exact Or.inl ⟨rfl, rfl⟩ | exact Or.inr ⟨_, _, _, rfl, rfl, by omega⟩)) (by (first | exact Or.inl ⟨rfl, rfl⟩ | exact Or.inr ⟨_, _, _, rfl, rfl, by omega⟩)) (by first | exact Or.inl rfl | exact Or.inr rfl) (by omega) (by omega) (by omega) (by omega)); (try simp only [Nat.zero_add, Nat.sub_zero]); simp only [Act.put, List.setIfInBounds_toArray, List.set_cons_zero, List.set_cons_succ])
        ((with_reducible apply V_run); rfl; (intro w M; go_simp; (try go_ints); (try simp only [↓IntWalk.iteOmega]); (try with_reducible rfl)); simp only [Act.put, List.setIfInBounds_toArray, List.set_cons_zero, List.set_cons_succ])
        ((with_reducible apply V_run); rfl; (intro w M; go_simp; (try go_ints); (try simp only [↓IntWalk.iteOmega]); (try with_reducible rfl)); simp only [Act.put, List.setIfInBounds_toArray, List.set_cons_zero, List.set_cons_succ])
        ((with_reducible apply V_run); rfl; (intro w M; exact run_sliceArr (l := 0) (h := 8) (m := 8) rfl Salg.underlying183 size23 (by (first | exact Or.inl ⟨rfl, rfl⟩ | exact Or.inr ⟨_, _, _, rfl, rfl, by omega⟩)) (by (first | exact Or.inl ⟨rfl, rfl⟩ | exact Or.inr ⟨_, _, _, rfl, rfl, by omega⟩)) (by (first | exact Or.inl ⟨rfl, rfl⟩ | exact Or.inr ⟨_, _, _, rfl, rfl, by omega⟩)) (by first | exact Or.inl rfl | exact Or.inr rfl) (by omega) (by omega) (by omega) (by omega)); (try simp only [Nat.zero_add, Nat.sub_zero]); simp only [Act.put, List.setIfInBounds_toArray, List.set_cons_zero, List.set_cons_succ])
        refine V_nil ?_
        intro w5 M
        refine S_seg 4 5 (by kernel_rfl) (by decide) ?_
        simp only [List.take_succ_cons, List.take_zero, List.drop_zero, List.drop_succ_cons, Nat.sub_zero, Nat.reduceSub]
        go_wp2_with ((with_reducible apply W_copyMap0 (f := n64) (fun _ => rfl) (l := List.replicate 9 0) (s := xs)); rfl; rfl; exact Salg.underlying198; exact size23; exact M; exact Or.inr (by assumption); exact M.r4; decide; (simp [hx]); clear M; intro w6 M)
        rw [show xs.take (min 8 9) ++ (List.replicate 9 0).drop (min 8 9) = xs ++ [0] from by rw [List.take_of_length_le (by simp [hx])]; rfl] at M
        refine S_done ?_
        go_wp2_with ((with_reducible apply W_loadCell); rfl; exact M.r3; exact get_map hgt; exact Salg.underlying23; rfl; simp only [Act.put, List.setIfInBounds_toArray, List.set_cons_zero, List.set_cons_succ])
        refine (HLZ.out _).mono ?_
        rintro e w7 ⟨rfl, rfl⟩
        clear HLZ
        go_wp2_with ((with_reducible apply W_sliceArr (l := 0) (h := 9) (m := 9)); rfl; exact Salg.underlying276; exact size23; (first | exact Or.inl ⟨rfl, rfl⟩ | exact Or.inr ⟨_, _, _, rfl, rfl, by omega⟩); (first | exact Or.inl ⟨rfl, rfl⟩ | exact Or.inr ⟨_, _, _, rfl, rfl, by omega⟩); (first | exact Or.inl ⟨rfl, rfl⟩ | exact Or.inr ⟨_, _, _, rfl, rfl, by omega⟩); (first | exact Or.inl rfl | exact Or.inr rfl); omega; omega; omega; omega; (try simp only [Nat.zero_add, Nat.sub_zero]); simp only [Act.put, List.setIfInBounds_toArray, List.set_cons_zero, List.set_cons_succ])
        refine (HUP.out b4 _ M.r0).mono ?_
        rintro e w8 ⟨v, l', rfl, g1, g2, _, g3, K, hr3⟩
        rw [HUE.out l' g1 g2 g3] at hr3
        replace M := Mem.callPut (L1 := []) M (Or.inr (by assumption)) K hr3
        simp only [List.cons_append, List.nil_append] at M
        clear K hr3 g1 g2 g3 HUP HUE
        go_wp2_with ((with_reducible apply W_sliceArr (l := 0) (h := 4) (m := 4)); rfl; exact Salg.underlying25; exact size23; (first | exact Or.inl ⟨rfl, rfl⟩ | exact Or.inr ⟨_, _, _, rfl, rfl, by omega⟩); (first | exact Or.inl ⟨rfl, rfl⟩ | exact Or.inr ⟨_, _, _, rfl, rfl, by omega⟩); (first | exact Or.inl ⟨rfl, rfl⟩ | exact Or.inr ⟨_, _, _, rfl, rfl, by omega⟩); (first | exact Or.inl rfl | exact Or.inr rfl); omega; omega; omega; omega; (try simp only [Nat.zero_add, Nat.sub_zero]); simp only [Act.put, List.setIfInBounds_toArray, List.set_cons_zero, List.set_cons_succ])
        refine (HUV.out b1 _ M.r3).mono ?_
        rintro e w9 ⟨v2, l2, rfl, g1, g2, _, g3, K, hr3⟩
        rw [HVE.out l2 g1 g2 g3] at hr3
        replace M := Mem.callPut (L1 := [_, _, _]) M (Or.inr (by assumption)) K hr3
        simp only [List.cons_append, List.nil_append] at M
        clear K hr3 g1 g2 g3 HUV HVE
        go_wp2_with (first
          | ((with_reducible apply W_sliceArr (l := 0) (h := 8) (m := 8)); rfl; exact Salg.underlying183; exact size23; (first | exact Or.inl ⟨rfl, rfl⟩ | exact Or.inr ⟨_, _, _, rfl, rfl, by omega⟩); (first | exact Or.inl ⟨rfl, rfl⟩ | exact Or.inr ⟨_, _, _, rfl, rfl, by omega⟩); (first | exact Or.inl ⟨rfl, rfl⟩ | exact Or.inr ⟨_, _, _, rfl, rfl, by omega⟩); (first | exact Or.inl rfl | exact Or.inr rfl); omega; omega; omega; omega; (try simp only [Nat.zero_add, Nat.sub_zero]); simp only [Act.put, List.setIfInBounds_toArray, List.set_cons_zero, List.set_cons_succ])
          | ((with_reducible apply W_clear64); rfl; decide; exact Salg.underlying198; exact zero23; exact M.r4; (first | exact hx | simp [hx]); intro w3 K hr3; replace M := Mem.callPut (L1 := [_, _, _, _]) M (Or.inl (by simp)) K hr3; clear K hr3; simp only [List.cons_append, List.nil_append] at M)
          | ((with_reducible apply W_loadCell (i := 0)); rfl; exact M.r1; exact get_map rfl; exact Salg.underlying5; rfl; simp only [Act.put, List.setIfInBounds_toArray, List.set_cons_zero, List.set_cons_succ]))
        clear hm
        go_loopw [10] (fun jv wr => ∃ (j : Nat) (us qs : List Nat) (f bk : Nat), j ≤ m ∧ jv = .int .u8 j ∧ Hid (GoodD us zs n j) ∧ f + (runs zs n j us).1 = FF ∧ bk + (runs zs n j us).2 = BB ∧ qs.length = 8 ∧ Limbs qs ∧ (∀ i, i < j → qs[i]? = some 0) ∧
            lval qs * lval zs + lval us = X2 ∧ Mem w [bx] [(b4, R64 276 us), (b3, R8 178 [m, f, bk]), (b2, R64 25 [0, 0, 0, 0]), (b1, R64 25 zs), (bx, R64 tx qs)] wr) (fun jv _ => (intOf jv).toNat)
        case atStart =>
          exact ⟨m, us0, List.replicate 8 0, 0, 0, Nat.le_refl _, by go_num, HG0, by rw [Nat.zero_add]; exact HFF.out.symm, by rw [Nat.zero_add]; exact HBB.out.symm, rfl, by intro x hx; simp at hx; omega,
            fun i hi => by rw [List.getElem?_replicate, if_pos (by omega)], HZ0.out, M⟩
        case round =>
          clear M HFF HBB HG0 HZ0
          obtain ⟨j, us, qs, f, bk, hj, rfl, HG, hf, hbk, hql, hqL, hqz, hqv, M⟩ := hrel
          have HQL := hid hqL
          have HQZ := hid hqz
          have HQV := hid hqv
          have HF := hid hf
          have HB := hid hbk
          clear hqL hqz hqv hf hbk
          match j, hj, HG, HQZ, HF, HB with
          | 0, hj, HG, HQZ, HF, HB =>
            have HE := hid (HEND.out us qs HG.out HQL.out hql HQV.out)
            have hul : us.length = 9 := HG.out.len
            have hLt : Hid (Limbs (us.take 4)) := HG.out.limbs.take 4
            obtain rfl : f = FF := by have := HF.out; simp only [runs, Nat.add_zero] at this; exact this
            obtain rfl : bk = BB := by have := HB.out; simp only [runs, Nat.add_zero] at this; exact this
            clear HF HB HG HQZ HQV HEND
            go_wp2_with (first
              | ((with_reducible apply W_sliceArr (l := 0) (h := 4) (m := 9)); rfl; exact Salg.underlying276; exact size23; (first | exact Or.inl ⟨rfl, rfl⟩ | exact Or.inr ⟨_, _, _, rfl, rfl, by omega⟩); (first | exact Or.inl ⟨rfl, rfl⟩ | exact Or.inr ⟨_, _, _, rfl, rfl, by omega⟩); (first | exact Or.inl ⟨rfl, rfl⟩ | exact Or.inr ⟨_, _, _, rfl, rfl, by omega⟩); (first | exact Or.inl rfl | exact Or.inr rfl); omega; omega; omega; omega; (try simp only [Nat.zero_add, Nat.sub_zero]); simp only [Act.put, List.setIfInBounds_toArray, List.set_cons_zero, List.set_cons_succ])
              | ((with_reducible apply W_arrayAt); rfl; exact Salg.underlying25; omega; simp only [Act.put, List.setIfInBounds_toArray, List.set_cons_zero, List.set_cons_succ])
              | ((with_reducible apply W_load); rfl; exact M.r0; exact Salg.underlying25; rfl; exact size25; (simp [hul]); rw [show (4 : Nat) = 0 + 4 from rfl, extract_map, List.drop_zero]; simp only [Act.put, List.setIfInBounds_toArray, List.set_cons_zero, List.set_cons_succ])
              | ((with_reducible apply W_storeK (b := b2) (vs := ((us.take 4).map n64).toArray)); rfl; (rw [List.map_take]; rfl); exact M.r2; exact size25; (simp [hul]); exact one64 _; intro w3 K hr3; replace M := Mem.callPut (L1 := [_, _]) M (Or.inr (by assumption)) K hr3; clear K hr3; simp only [List.cons_append, List.nil_append] at M)
              | ((with_reducible apply W_sliceArr (l := 0) (h := 4) (m := 4)); rfl; exact Salg.underlying25; exact size23; (first | exact Or.inl ⟨rfl, rfl⟩ | exact Or.inr ⟨_, _, _, rfl, rfl, by omega⟩); (first | exact Or.inl ⟨rfl, rfl⟩ | exact Or.inr ⟨_, _, _, rfl, rfl, by omega⟩); (first | exact Or.inl ⟨rfl, rfl⟩ | exact Or.inr ⟨_, _, _, rfl, rfl, by omega⟩); (first | exact Or.inl rfl | exact Or.inr rfl); omega; omega; omega; omega; (try simp only [Nat.zero_add, Nat.sub_zero]); simp only [Act.put, List.setIfInBounds_toArray, List.set_cons_zero, List.set_cons_succ]))
            refine (shiftDown_any b2 25 4 s (us.take 4) _ M.r2 hLt.out (by simp [hul]) (by simp [hul]) hs64).mono ?_
            rintro e w10 ⟨v3, l3, rfl, g1, g2, _, g3, K, hr3⟩
            have g1' : l3.length = 4 := by rw [g1]; simp [hul]
            rw [List.take_of_length_le (by omega), List.take_of_length_le (by rw [List.length_take]; omega), HE.out.2] at g3
            rw [eq_nl g2 g1' g3] at hr3
            replace M := Mem.callPut (L1 := [_, _]) M (Or.inr (by assumption)) K hr3
            simp only [List.cons_append, List.nil_append] at M
            rw [HE.out.1] at M
            clear K hr3 g1 g2 g3 g1' HE
            have hnl := nl_length 4 RR
            go_wp2_with fail
            refine S_region (by kernel_rfl) ?_
            refine V_quiet 0 4 (by kernel_rfl) (by decide) M.drew ?_
            clear M
            simp only [List.take_succ_cons, List.take_zero, List.drop_zero, List.drop_succ_cons, Nat.sub_zero, Nat.reduceSub]
            ((with_reducible apply V_run); rfl; (intro w M; exact run_loadAll (by (first | with_reducible exact M.r0 | with_reducible exact M.r1 | with_reducible exact M.r2 | with_reducible exact M.r3 | with_reducible exact M.r4 | with_reducible exact M.r5 | with_reducible exact M.r6 | assumption | exact M.kept.row (by assumption) (by simp))) rfl Salg.underlying25 rfl (by first | with_reducible exact size25 | (rw [size25]; simp [hnl]))); simp only [Act.put, List.setIfInBounds_toArray, List.set_cons_zero, List.set_cons_succ])
            ((with_reducible apply V_run); rfl; (intro w M; exact run_loadAll (by (first | with_reducible exact M.r0 | with_reducible exact M.r1 | with_reducible exact M.r2 | with_reducible exact M.r3 | with_reducible exact M.r4 | with_reducible exact M.r5 | with_reducible exact M.r6 | assumption | exact M.kept.row (by assumption) (by simp))) rfl Salg.underlying178 rfl (by first | with_reducible exact size178 | (rw [size178]; simp []))); simp only [Act.put, List.setIfInBounds_toArray, List.set_cons_zero, List.set_cons_succ])
            ((with_reducible apply V_same); rfl; rfl; exact fun w M => M.r2; (first | exact size25 | (rw [size25]; simp [hnl])); exact one64 _)
            ((with_reducible apply V_same); rfl; rfl; exact fun w M => M.r1; exact size178; exact one8 _)
            refine V_nil ?_
            intro w9 M
            refine S_done ?_
            go_wp2_with fail
            exact ret_cell2 Salg.results201 rfl M.r2 Salg.underlying25 rfl (by rw [size25]; simp [hnl]) rfl M.r1 Salg.underlying178 rfl size178 rfl ⟨rfl, M.kept, M.r4⟩
          | j + 1, hj, HG, HQZ, HF, HB =>
            have HMID := hid (GoodD.mid HN.out HG.out)
            have HST := hid (GoodD.step HN.out HG.out)
            have hne : b4 ≠ b1 := by have := M.apart; simp only [List.map_cons, List.pairwise_cons] at this; exact this.1 b1 (by simp)
            have HRD := hid (fun (w : World) (h1 : w.heap[b4]? = some (R64 276 us)) (h2 : w.heap[b1]? = some (R64 25 zs)) => Round_any b4 b1 276 25 us zs n j w h1 h2 hne HG.out.len HN.out.len HG.out.limbs HN.out.limbs HMID.out)
            simp only [runs] at HF HB
            generalize rt (win us n j) zs n - rq (win us n j) zs n = fx at *
            generalize rb (win us n j) zs n = back at *
            have hq64 : lval (win us n j) / lval (zs.take n) < 18446744073709551616 := HST.out.2.2.1
            generalize lval (win us n j) / lval (zs.take n) = q at *
            generalize roundU us zs n j = us2 at *
            have hfx : f + fx ≤ 14 := by have := HF.out; omega
            have hj8 : j < 8 := by omega
            have hqg : qs[j]? = some 0 := HQZ.out j (by omega)
            have HQ2 : Hid (lval (qs.set j q) * lval zs + lval us2 = X2) := by
              have hjq : j < qs.length := by omega
              have h0 : qs[j] = 0 := by rw [List.getElem?_eq_getElem hjq] at hqg; simpa using hqg
              show _ = _
              rw [lval_set hjq h0]
              exact div_step HQV.out HST.out.2.1
            have HG2 : Hid (GoodD us2 zs n j) := HST.out.1
            clear HQV HST HMID HG hne
            go_wp2_with fail
            refine (HRD.out _ M.r0 M.r3).mono ?_
            rintro e w10 ⟨rfl, K, hr3⟩
            replace M := Mem.callPut (L1 := []) M (Or.inr (by assumption)) K hr3
            simp only [List.cons_append, List.nil_append] at M
            clear K hr3 HRD
            cases back with
            | false =>
              go_wp2_with (first
                | ((with_reducible apply W_st64K (b := bx) (o := j) (m := q)); rfl; rfl; rfl; exact M.r4; exact size23; omega; intro w3 K hr3; replace M := Mem.callPut (L1 := [_, _, _, _]) M (Or.inl (by simp)) K hr3; clear K hr3; simp only [List.cons_append, List.nil_append] at M)
                | ((with_reducible apply W_loadCell (i := 1)); rfl; exact M.r1; exact get_map rfl; exact Salg.underlying5; rfl; simp only [Act.put, List.setIfInBounds_toArray, List.set_cons_zero, List.set_cons_succ])
                | ((with_reducible apply W_st8K (b := b3) (o := 1) (m := f + fx)); rfl; rfl; (first | rfl | omega | go_num); exact M.r1; exact size5; (first | decide | simp); intro w3 K hr3; replace M := Mem.callPut (L1 := [_]) M (Or.inr (by assumption)) K hr3; clear K hr3; simp only [List.cons_append, List.nil_append, List.set_cons_succ, List.set_cons_zero] at M))
              go_roundw
              case rel => exact ⟨j, us2, qs.set j q, f + fx, bk, by omega, by go_num, HG2, by have := HF.out; omega, by have := HB.out; simp only [Bool.false_eq_true, if_false, Nat.zero_add] at this; exact this, by simp [hql], HQL.out.set hq64, fun i hi => by rw [List.getElem?_set_ne (by omega)]; exact HQZ.out i (by omega), HQ2.out, M⟩
              case measure => simp [intOf]
            | true =>
              have hbk2 : bk + 1 ≤ 7 := by have := HB.out; simp only [if_true] at this; omega
              go_wp2_with (first
                | ((with_reducible apply W_st64K (b := bx) (o := j) (m := q)); rfl; rfl; rfl; exact M.r4; exact size23; omega; intro w3 K hr3; replace M := Mem.callPut (L1 := [_, _, _, _]) M (Or.inl (by simp)) K hr3; clear K hr3; simp only [List.cons_append, List.nil_append] at M)
                | ((with_reducible apply W_loadCell (i := 1)); rfl; exact M.r1; exact get_map rfl; exact Salg.underlying5; rfl; simp only [Act.put, List.setIfInBounds_toArray, List.set_cons_zero, List.set_cons_succ])
                | ((with_reducible apply W_st8K (b := b3) (o := 1) (m := f + fx)); rfl; rfl; (first | rfl | omega | go_num); exact M.r1; exact size5; (first | decide | simp); intro w3 K hr3; replace M := Mem.callPut (L1 := [_]) M (Or.inr (by assumption)) K hr3; clear K hr3; simp only [List.cons_append, List.nil_append, List.set_cons_succ, List.set_cons_zero] at M)
                | ((with_reducible apply W_loadCell (i := 2)); rfl; exact M.r1; exact get_map rfl; exact Salg.underlying5; rfl; simp only [Act.put, List.setIfInBounds_toArray, List.set_cons_zero, List.set_cons_succ])
                | ((with_reducible apply W_st8K (b := b3) (o := 2) (m := bk + 1)); rfl; rfl; (first | rfl | omega | go_num); exact M.r1; exact size5; (first | decide | simp); intro w3 K hr3; replace M := Mem.callPut (L1 := [_]) M (Or.inr (by assumption)) K hr3; clear K hr3; simp only [List.cons_append, List.nil_append, List.set_cons_succ, List.set_cons_zero] at M))
              go_roundw
              case rel => exact ⟨j, us2, qs.set j q, f + fx, bk + 1, by omega, by go_num, HG2, by have := HF.out; omega, by have := HB.out; simp only [if_true] at this; omega, by simp [hql], HQL.out.set hq64, fun i hi => by rw [List.getElem?_set_ne (by omega)]; exact HQZ.out i (by omega), HQ2.out, M⟩
              case measure => simp [intOf]
end Go.Proofs.YgcsalGreat

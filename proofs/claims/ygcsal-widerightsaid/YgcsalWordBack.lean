/-
  law.WordBack: the walks of wordBackHolds and WordBack; the plain law.
-/
import Derived.Test.YgcsalWord
set_option linter.unusedSimpArgs false
namespace Go.Own
theorem be_snoc (l : List Nat) (c : Nat) : be (l ++ [c]) = be l * 256 + c := by simp [be]
theorem be_lt_from (l : List Nat) : ∀ (x n : Nat), x < 256 ^ n → (∀ c ∈ l, c < 256) → l.foldl (fun x c => x * 256 + c) x < 256 ^ (n + l.length) := by
  induction l with
  | nil => intro x n h _; simpa using h
  | cons c l ih =>
    intro x n h hc
    have h2 := hc c (by simp)
    have := ih (x * 256 + c) (n + 1) (by rw [Nat.pow_succ]; omega) (fun d hd => hc d (by simp [hd]))
    rw [List.length_cons, show n + (l.length + 1) = n + 1 + l.length from by omega]
    exact this
theorem be_lt (l : List Nat) (h : ∀ c ∈ l, c < 256) : be l < 256 ^ l.length := by have := be_lt_from l 0 0 (by decide) h; rw [Nat.zero_add] at this; exact this
theorem be_take_succ {l : List Nat} {j : Nat} (h : j < l.length) : be (l.take (j + 1)) = be (l.take j) * 256 + l[j] := by
  rw [List.take_succ_eq_append_getElem h, be_snoc]
theorem shl8_or {x c : Nat} (hx : x < 72057594037927936) (hc : c < 256) : bits .or .u64 ((x : Int) * 256) (c : Int) = ((x * 256 + c : Nat) : Int) := by
  have := bits_or_u64_nat (x * 256) c (by omega) (by omega)
  rw [Int.natCast_mul] at this
  rw [show ((256 : Nat) : Int) = 256 from rfl] at this
  rw [this, or_add 8 (by omega) (by omega)]
end Go.Own
namespace Go.Proofs.Ygcsal
open Go.RowKit Go.Own

set_option maxHeartbeats 1000000 in
set_option maxRecDepth 100000 in
theorem wordBackHolds_any (bs : List Nat) (w : World) (hn : bs.length = 32) (hb : ∀ c ∈ bs, c < 256) :
    Calls Salg.prog 11 #[A8 bs, A64 (limbs4 bs), A8 bs] w fun e w' => e = .returned (.bool true) ∧ Kept [] w w' := by
  have M := Mem.start w []
  unfold limbs4
  generalize h3 : be ((bs.drop 0).take 8) = l3
  generalize h2 : be ((bs.drop 8).take 8) = l2
  generalize h1 : be ((bs.drop 16).take 8) = l1
  generalize h0 : be ((bs.drop 24).take 8) = l0
  have H0 := hid h0; have H1 := hid h1; have H2 := hid h2; have H3 := hid h3
  clear h0 h1 h2 h3
  go_enter Salg.func11, Salg.ntmps11
  go_wp2_with (first
    | ((with_reducible apply L_box (d := 3) M); rfl; clear M; intro b1 w1 hb1 M; simp only [Act.put, List.setIfInBounds_toArray, List.set_cons_zero, List.set_cons_succ])
    | ((with_reducible apply L_box (d := 4) M); rfl; clear M; intro b2 w1 hb2 M; simp only [Act.put, List.setIfInBounds_toArray, List.set_cons_zero, List.set_cons_succ])
    | ((with_reducible apply L_box (d := 5) M); rfl; clear M; intro b3 w1 hb3 M; simp only [Act.put, List.setIfInBounds_toArray, List.set_cons_zero, List.set_cons_succ])
    | ((with_reducible apply W_loadAll); rfl; (first | with_reducible exact M.r0 | with_reducible exact M.r1 | with_reducible exact M.r2 | with_reducible exact M.r3 | with_reducible exact M.r4 | with_reducible exact M.r5 | with_reducible exact M.r6 | assumption | exact M.kept.row (by assumption) (by simp)); exact Salg.underlying25; rfl; (first | with_reducible exact size25 | (rw [size25]; simp [])); simp only [Act.put, List.setIfInBounds_toArray, List.set_cons_zero, List.set_cons_succ]))
  go_loop [13] (fun i => ∃ k : Nat, k ≤ 4 ∧ i = .int .i64 k) (fun i => 4 - (intOf i).toNat)
  case atStart => exact ⟨0, by omega, rfl⟩
  case round =>
    obtain ⟨k, hk, rfl⟩ := hrel
    by_cases hlt : k < 4
    · rcases (by omega : k = 0 ∨ k = 1 ∨ k = 2 ∨ k = 3) with rfl | rfl | rfl | rfl
      · have hin : ∀ c ∈ (bs.drop 24).take 8, c < 256 := fun c hc => hb c (List.mem_of_mem_drop (List.mem_of_mem_take hc))
        have hl8 : ((bs.drop 24).take 8).length = 8 := by simp; omega
        go_wp2_with ((with_reducible apply W_index); rfl; rfl; rfl; exact Salg.underlying25; exact Salg.underlying23; exact size23; exact (by omega); (first | exact get_map (by assumption) | exact get_map rfl | rfl); simp only [Act.put, List.setIfInBounds_toArray, List.set_cons_zero, List.set_cons_succ])
        go_loop [9, 25] (fun x i => ∃ j : Nat, j ≤ 8 ∧ i = .int .i64 j ∧ x = n64 (be (((bs.drop 24).take 8).take j))) (fun _ i => 8 - (intOf i).toNat)
        case atStart => exact ⟨0, by omega, rfl, rfl⟩
        case round =>
          obtain ⟨j, hj, rfl, rfl⟩ := hrel
          by_cases hjl : j < 8
          · have hcv : bs[24 + j]? = some (((bs.drop 24).take 8)[j]'(by omega)) := by
              rw [List.getElem_take, List.getElem_drop]; exact List.getElem?_eq_getElem _
            have hc2 := hin _ (List.getElem_mem (h := (by omega : j < ((bs.drop 24).take 8).length)))
            have hx := be_lt (((bs.drop 24).take 8).take j) (fun c hc => hin c (List.mem_of_mem_take hc))
            have hx' : be (((bs.drop 24).take 8).take j) < 72057594037927936 := Nat.lt_of_lt_of_le hx (by
              rw [List.length_take]; exact Nat.pow_le_pow_right (n := 256) (i := min j _) (j := 7) (by decide) (by omega))
            have HS := hid (be_take_succ (l := (bs.drop 24).take 8) (j := j) (by omega))
            generalize be (((bs.drop 24).take 8).take j) = x at *
            generalize ((bs.drop 24).take 8)[j]'(by omega) = c at *
            go_wp2_with ((with_reducible apply W_loadCell); rfl; (first | with_reducible exact M.r0 | with_reducible exact M.r1 | with_reducible exact M.r2 | with_reducible exact M.r3 | with_reducible exact M.r4 | with_reducible exact M.r5 | with_reducible exact M.r6 | assumption | exact M.kept.row (by assumption) (by simp)); (first | exact get_map (by assumption) | exact get_map rfl | rfl); exact Salg.underlying5; rfl; simp only [Act.put, List.setIfInBounds_toArray, List.set_cons_zero, List.set_cons_succ])
            go_round
            case rel => exact ⟨j + 1, by omega, by go_num, by rw [HS.out]; exact congrArg (Value.int .u64) (shl8_or hx' hc2)⟩
            case measure => simp [intOf]; omega
          · have hj8 : j = 8 := by omega
            subst hj8
            rw [List.take_of_length_le (l := (bs.drop 24).take 8) (by omega), H0.out]
            go_wp2_with fail
            exact ⟨⟨_, _, _, _, _, _, ⟨0 + 1, by omega, rfl⟩, rfl, rfl, rfl, rfl, rfl, rfl⟩, by simp [intOf]⟩
      · have hin : ∀ c ∈ (bs.drop 16).take 8, c < 256 := fun c hc => hb c (List.mem_of_mem_drop (List.mem_of_mem_take hc))
        have hl8 : ((bs.drop 16).take 8).length = 8 := by simp; omega
        go_wp2_with ((with_reducible apply W_index); rfl; rfl; rfl; exact Salg.underlying25; exact Salg.underlying23; exact size23; exact (by omega); (first | exact get_map (by assumption) | exact get_map rfl | rfl); simp only [Act.put, List.setIfInBounds_toArray, List.set_cons_zero, List.set_cons_succ])
        go_loop [9, 25] (fun x i => ∃ j : Nat, j ≤ 8 ∧ i = .int .i64 j ∧ x = n64 (be (((bs.drop 16).take 8).take j))) (fun _ i => 8 - (intOf i).toNat)
        case atStart => exact ⟨0, by omega, rfl, rfl⟩
        case round =>
          obtain ⟨j, hj, rfl, rfl⟩ := hrel
          by_cases hjl : j < 8
          · have hcv : bs[16 + j]? = some (((bs.drop 16).take 8)[j]'(by omega)) := by
              rw [List.getElem_take, List.getElem_drop]; exact List.getElem?_eq_getElem _
            have hc2 := hin _ (List.getElem_mem (h := (by omega : j < ((bs.drop 16).take 8).length)))
            have hx := be_lt (((bs.drop 16).take 8).take j) (fun c hc => hin c (List.mem_of_mem_take hc))
            have hx' : be (((bs.drop 16).take 8).take j) < 72057594037927936 := Nat.lt_of_lt_of_le hx (by
              rw [List.length_take]; exact Nat.pow_le_pow_right (n := 256) (i := min j _) (j := 7) (by decide) (by omega))
            have HS := hid (be_take_succ (l := (bs.drop 16).take 8) (j := j) (by omega))
            generalize be (((bs.drop 16).take 8).take j) = x at *
            generalize ((bs.drop 16).take 8)[j]'(by omega) = c at *
            go_wp2_with ((with_reducible apply W_loadCell); rfl; (first | with_reducible exact M.r0 | with_reducible exact M.r1 | with_reducible exact M.r2 | with_reducible exact M.r3 | with_reducible exact M.r4 | with_reducible exact M.r5 | with_reducible exact M.r6 | assumption | exact M.kept.row (by assumption) (by simp)); (first | exact get_map (by assumption) | exact get_map rfl | rfl); exact Salg.underlying5; rfl; simp only [Act.put, List.setIfInBounds_toArray, List.set_cons_zero, List.set_cons_succ])
            go_round
            case rel => exact ⟨j + 1, by omega, by go_num, by rw [HS.out]; exact congrArg (Value.int .u64) (shl8_or hx' hc2)⟩
            case measure => simp [intOf]; omega
          · have hj8 : j = 8 := by omega
            subst hj8
            rw [List.take_of_length_le (l := (bs.drop 16).take 8) (by omega), H1.out]
            go_wp2_with fail
            exact ⟨⟨_, _, _, _, _, _, ⟨1 + 1, by omega, rfl⟩, rfl, rfl, rfl, rfl, rfl, rfl⟩, by simp [intOf]⟩
      · have hin : ∀ c ∈ (bs.drop 8).take 8, c < 256 := fun c hc => hb c (List.mem_of_mem_drop (List.mem_of_mem_take hc))
        have hl8 : ((bs.drop 8).take 8).length = 8 := by simp; omega
        go_wp2_with ((with_reducible apply W_index); rfl; rfl; rfl; exact Salg.underlying25; exact Salg.underlying23; exact size23; exact (by omega); (first | exact get_map (by assumption) | exact get_map rfl | rfl); simp only [Act.put, List.setIfInBounds_toArray, List.set_cons_zero, List.set_cons_succ])
        go_loop [9, 25] (fun x i => ∃ j : Nat, j ≤ 8 ∧ i = .int .i64 j ∧ x = n64 (be (((bs.drop 8).take 8).take j))) (fun _ i => 8 - (intOf i).toNat)
        case atStart => exact ⟨0, by omega, rfl, rfl⟩
        case round =>
          obtain ⟨j, hj, rfl, rfl⟩ := hrel
          by_cases hjl : j < 8
          · have hcv : bs[8 + j]? = some (((bs.drop 8).take 8)[j]'(by omega)) := by
              rw [List.getElem_take, List.getElem_drop]; exact List.getElem?_eq_getElem _
            have hc2 := hin _ (List.getElem_mem (h := (by omega : j < ((bs.drop 8).take 8).length)))
            have hx := be_lt (((bs.drop 8).take 8).take j) (fun c hc => hin c (List.mem_of_mem_take hc))
            have hx' : be (((bs.drop 8).take 8).take j) < 72057594037927936 := Nat.lt_of_lt_of_le hx (by
              rw [List.length_take]; exact Nat.pow_le_pow_right (n := 256) (i := min j _) (j := 7) (by decide) (by omega))
            have HS := hid (be_take_succ (l := (bs.drop 8).take 8) (j := j) (by omega))
            generalize be (((bs.drop 8).take 8).take j) = x at *
            generalize ((bs.drop 8).take 8)[j]'(by omega) = c at *
            go_wp2_with ((with_reducible apply W_loadCell); rfl; (first | with_reducible exact M.r0 | with_reducible exact M.r1 | with_reducible exact M.r2 | with_reducible exact M.r3 | with_reducible exact M.r4 | with_reducible exact M.r5 | with_reducible exact M.r6 | assumption | exact M.kept.row (by assumption) (by simp)); (first | exact get_map (by assumption) | exact get_map rfl | rfl); exact Salg.underlying5; rfl; simp only [Act.put, List.setIfInBounds_toArray, List.set_cons_zero, List.set_cons_succ])
            go_round
            case rel => exact ⟨j + 1, by omega, by go_num, by rw [HS.out]; exact congrArg (Value.int .u64) (shl8_or hx' hc2)⟩
            case measure => simp [intOf]; omega
          · have hj8 : j = 8 := by omega
            subst hj8
            rw [List.take_of_length_le (l := (bs.drop 8).take 8) (by omega), H2.out]
            go_wp2_with fail
            exact ⟨⟨_, _, _, _, _, _, ⟨2 + 1, by omega, rfl⟩, rfl, rfl, rfl, rfl, rfl, rfl⟩, by simp [intOf]⟩
      · have hin : ∀ c ∈ (bs.drop 0).take 8, c < 256 := fun c hc => hb c (List.mem_of_mem_drop (List.mem_of_mem_take hc))
        have hl8 : ((bs.drop 0).take 8).length = 8 := by simp; omega
        go_wp2_with ((with_reducible apply W_index); rfl; rfl; rfl; exact Salg.underlying25; exact Salg.underlying23; exact size23; exact (by omega); (first | exact get_map (by assumption) | exact get_map rfl | rfl); simp only [Act.put, List.setIfInBounds_toArray, List.set_cons_zero, List.set_cons_succ])
        go_loop [9, 25] (fun x i => ∃ j : Nat, j ≤ 8 ∧ i = .int .i64 j ∧ x = n64 (be (((bs.drop 0).take 8).take j))) (fun _ i => 8 - (intOf i).toNat)
        case atStart => exact ⟨0, by omega, rfl, rfl⟩
        case round =>
          obtain ⟨j, hj, rfl, rfl⟩ := hrel
          by_cases hjl : j < 8
          · have hcv : bs[0 + j]? = some (((bs.drop 0).take 8)[j]'(by omega)) := by
              rw [List.getElem_take, List.getElem_drop]; exact List.getElem?_eq_getElem _
            rw [Nat.zero_add] at hcv
            have hc2 := hin _ (List.getElem_mem (h := (by omega : j < ((bs.drop 0).take 8).length)))
            have hx := be_lt (((bs.drop 0).take 8).take j) (fun c hc => hin c (List.mem_of_mem_take hc))
            have hx' : be (((bs.drop 0).take 8).take j) < 72057594037927936 := Nat.lt_of_lt_of_le hx (by
              rw [List.length_take]; exact Nat.pow_le_pow_right (n := 256) (i := min j _) (j := 7) (by decide) (by omega))
            have HS := hid (be_take_succ (l := (bs.drop 0).take 8) (j := j) (by omega))
            generalize be (((bs.drop 0).take 8).take j) = x at *
            generalize ((bs.drop 0).take 8)[j]'(by omega) = c at *
            go_wp2_with ((with_reducible apply W_loadCell); rfl; (first | with_reducible exact M.r0 | with_reducible exact M.r1 | with_reducible exact M.r2 | with_reducible exact M.r3 | with_reducible exact M.r4 | with_reducible exact M.r5 | with_reducible exact M.r6 | assumption | exact M.kept.row (by assumption) (by simp)); (first | exact get_map (by assumption) | exact get_map rfl | rfl); exact Salg.underlying5; rfl; simp only [Act.put, List.setIfInBounds_toArray, List.set_cons_zero, List.set_cons_succ])
            go_round
            case rel => exact ⟨j + 1, by omega, by go_num, by rw [HS.out]; exact congrArg (Value.int .u64) (shl8_or hx' hc2)⟩
            case measure => simp [intOf]; omega
          · have hj8 : j = 8 := by omega
            subst hj8
            rw [List.take_of_length_le (l := (bs.drop 0).take 8) (by omega), H3.out]
            go_wp2_with fail
            exact ⟨⟨_, _, _, _, _, _, ⟨3 + 1, by omega, rfl⟩, rfl, rfl, rfl, rfl, rfl, rfl⟩, by simp [intOf]⟩
    · go_wp2_with (first
        | ((with_reducible apply W_loadAll); rfl; (first | with_reducible exact M.r0 | with_reducible exact M.r1 | with_reducible exact M.r2 | with_reducible exact M.r3 | with_reducible exact M.r4 | with_reducible exact M.r5 | with_reducible exact M.r6 | assumption | exact M.kept.row (by assumption) (by simp)); exact Salg.underlying22; rfl; (first | with_reducible exact size22 | (rw [size22]; simp [hn])); simp only [Act.put, List.setIfInBounds_toArray, List.set_cons_zero, List.set_cons_succ])
        | ((with_reducible apply W_eql8); rfl; rfl; exact Salg.underlying22; exact Salg.underlying5; exact size5; exact guard22; exact hn; exact hn; simp only [Act.put, List.setIfInBounds_toArray, List.set_cons_zero, List.set_cons_succ]))
      go_ret
      exact ⟨by simp, M.kept⟩

end Go.Proofs.Ygcsal
namespace Go.Own
/-- Eight bytes come back. -/
theorem put8_be (l : List Nat) (off : Nat) (c0 c1 c2 c3 c4 c5 c6 c7 : Nat) (h1 : c1 < 256) (h2 : c2 < 256) (h3 : c3 < 256) (h4 : c4 < 256) (h5 : c5 < 256) (h6 : c6 < 256) (h7 : c7 < 256) :
    put8 l off (be [c0, c1, c2, c3, c4, c5, c6, c7]) = (((((((l.set off c0).set (off + 1) c1).set (off + 2) c2).set (off + 3) c3).set (off + 4) c4).set (off + 5) c5).set (off + 6) c6).set (off + 7) c7 := by
  have e : be [c0, c1, c2, c3, c4, c5, c6, c7] = ((((((c0 * 256 + c1) * 256 + c2) * 256 + c3) * 256 + c4) * 256 + c5) * 256 + c6) * 256 + c7 := by simp [be]
  rw [e]
  unfold put8
  congr
  all_goals omega
theorem back32 (bs : List Nat) (hn : bs.length = 32) (hb : ∀ c ∈ bs, c < 256) :
    put8 (put8 (put8 (put8 (List.replicate 32 0) 0 (be ((bs.drop 0).take 8))) 8 (be ((bs.drop 8).take 8))) 16 (be ((bs.drop 16).take 8))) 24 (be ((bs.drop 24).take 8)) = bs := by
  match bs, hn with
  | [a0, a1, a2, a3, a4, a5, a6, a7, b0, b1, b2, b3, b4, b5, b6, b7, c0, c1, c2, c3, c4, c5, c6, c7, d0, d1, d2, d3, d4, d5, d6, d7], _ =>
    simp only [List.mem_cons, List.not_mem_nil, or_false, forall_eq_or_imp, forall_eq] at hb
    obtain ⟨h0, h1, h2, h3, h4, h5, h6, h7, h8, h9, h10, h11, h12, h13, h14, h15, h16, h17, h18, h19, h20, h21, h22, h23, h24, h25, h26, h27, h28, h29, h30, h31⟩ := hb
    simp only [List.drop_zero, List.drop_succ_cons, List.take_succ_cons, List.take_zero]
    rw [put8_be _ _ _ _ _ _ _ _ _ _ h1 h2 h3 h4 h5 h6 h7, put8_be _ _ _ _ _ _ _ _ _ _ h9 h10 h11 h12 h13 h14 h15, put8_be _ _ _ _ _ _ _ _ _ _ h17 h18 h19 h20 h21 h22 h23, put8_be _ _ _ _ _ _ _ _ _ _ h25 h26 h27 h28 h29 h30 h31]
    simp only [List.replicate_succ, List.replicate_zero, List.set_cons_succ, List.set_cons_zero, Nat.zero_add, Nat.reduceAdd]
end Go.Own
namespace Go.Proofs.Ygcsal
open Go.RowKit Go.Own

set_option maxHeartbeats 1000000 in
set_option maxRecDepth 100000 in
theorem wordBack_any (bs : List Nat) (w : World) (hn : bs.length = 32) (hb : ∀ c ∈ bs, c < 256) :
    Calls Salg.prog 3 #[A8 bs] w fun e w' => e = .returned (.bool true) ∧ Kept [] w w' := by
  have M := Mem.start w []
  have hlt : ∀ o, be ((bs.drop o).take 8) < 18446744073709551616 := fun o =>
    Nat.lt_of_lt_of_le (be_lt _ (fun c hc => hb c (List.mem_of_mem_drop (List.mem_of_mem_take hc)))) (by
      rw [List.length_take]; exact Nat.pow_le_pow_right (n := 256) (j := 8) (by decide) (by omega))
  go_enter Salg.func3, Salg.ntmps3
  go_wp2_with (first
    | ((with_reducible apply L_box M); rfl; clear M; intro b1 w1 hb1 M; simp only [Act.put, List.setIfInBounds_toArray, List.set_cons_zero, List.set_cons_succ])
    | ((with_reducible apply W_loadAll); rfl; (first | with_reducible exact M.r0 | with_reducible exact M.r1 | with_reducible exact M.r2 | with_reducible exact M.r3 | with_reducible exact M.r4 | with_reducible exact M.r5 | with_reducible exact M.r6 | assumption | exact M.kept.row (by assumption) (by simp)); exact Salg.underlying22; rfl; (first | with_reducible exact size22 | (rw [size22]; simp [hn])); simp only [Act.put, List.setIfInBounds_toArray, List.set_cons_zero, List.set_cons_succ])
    | ((with_reducible apply L_allocA M); exact zero25; clear M; intro b2 w1 hb2 M; simp only [Act.put, List.setIfInBounds_toArray, List.set_cons_zero, List.set_cons_succ])
    | (go_at_call 10; refine (fromBytes_any bs _ hn hb).mono ?_; rintro e w3 ⟨rfl, K⟩; replace M := M.call K; clear K)
    | ((with_reducible apply W_storeAll0); rfl; rfl; exact M; exact Or.inr hb2; exact size25; rfl; exact one64 _; clear M; intro w2 M))
  refine S_region (by kernel_rfl) ?_
  refine S_quiet 0 6 (by kernel_rfl) (by decide) M.drew ?_
  clear M
  simp only [List.take_succ_cons, List.take_zero, List.drop_zero, List.drop_succ_cons, Nat.sub_zero, Nat.reduceSub]
  ((with_reducible apply Q_run); rfl; (intro w M; exact run_loadAll (by (first | with_reducible exact M.r0 | with_reducible exact M.r1 | with_reducible exact M.r2 | with_reducible exact M.r3 | with_reducible exact M.r4 | with_reducible exact M.r5 | with_reducible exact M.r6 | assumption | exact M.kept.row (by assumption) (by simp))) rfl Salg.underlying22 rfl (by first | with_reducible exact size22 | (rw [size22]; simp [hn]))); simp only [Act.put, List.setIfInBounds_toArray, List.set_cons_zero, List.set_cons_succ])
  ((with_reducible apply Q_run); rfl; (intro w M; exact run_loadAll (by (first | with_reducible exact M.r0 | with_reducible exact M.r1 | with_reducible exact M.r2 | with_reducible exact M.r3 | with_reducible exact M.r4 | with_reducible exact M.r5 | with_reducible exact M.r6 | assumption | exact M.kept.row (by assumption) (by simp))) rfl Salg.underlying25 rfl (by first | with_reducible exact size25 | (rw [size25]; simp [limbs4]))); simp only [Act.put, List.setIfInBounds_toArray, List.set_cons_zero, List.set_cons_succ])
  ((with_reducible apply Q_run); rfl; (intro w M; exact run_loadAll (by (first | with_reducible exact M.r0 | with_reducible exact M.r1 | with_reducible exact M.r2 | with_reducible exact M.r3 | with_reducible exact M.r4 | with_reducible exact M.r5 | with_reducible exact M.r6 | assumption | exact M.kept.row (by assumption) (by simp))) rfl Salg.underlying25 rfl (by first | with_reducible exact size25 | (rw [size25]; simp [limbs4]))); simp only [Act.put, List.setIfInBounds_toArray, List.set_cons_zero, List.set_cons_succ])
  refine Q_call rfl Salg.func12 (by kernel_rfl) (by kernel_rfl) (args := [A64 (limbs4 bs)]) rfl (fun w M => be32_any _ _ _ _ w (hlt _) (hlt _) (hlt _) (hlt _)) ?_
  rw [back32 bs hn hb]
  simp only [Act.put, List.setIfInBounds_toArray, List.set_cons_zero, List.set_cons_succ]
  refine Q_call rfl Salg.func11 (by kernel_rfl) (by kernel_rfl) (args := [A8 bs, A64 (limbs4 bs), A8 bs]) rfl (fun w M => wordBackHolds_any bs w hn hb) ?_
  simp only [Act.put, List.setIfInBounds_toArray, List.set_cons_zero, List.set_cons_succ]
  ((with_reducible apply Q_run); rfl; (intro w M; go_simp; (try go_ints); (try simp only [↓IntWalk.iteOmega]); (try with_reducible rfl)); simp only [Act.put, List.setIfInBounds_toArray, List.set_cons_zero, List.set_cons_succ])
  refine Q_nil ?_
  intro w4 M
  refine S_done ?_
  go_wp2
  go_ret
  exact ⟨rfl, M.kept⟩
end Go.Proofs.Ygcsal

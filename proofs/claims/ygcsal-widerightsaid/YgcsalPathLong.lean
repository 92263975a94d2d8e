/-
  The walk of law.pathByRounds where the divisor has two limbs or more.
-/
import Derived.Test.YgcsalPath
set_option linter.unusedSimpArgs false
namespace Go.Proofs.Ygcsal
open Go.RowKit Go.Own

set_option maxHeartbeats 4000000 in
set_option maxRecDepth 100000 in
theorem path_long (v u : Value) (X V : Nat) (w : World) (hX : NumV w v X) (hV : NumV w u V) (hXl : X < 18446744073709551616 ^ 8) (hVl : V < 18446744073709551616 ^ 4) (h2 : 2 ≤ nlb V) (hle : nlb V ≤ nlb X) :
    Calls Salg.prog 44 #[v, u] w fun e w' => e = .returned (A8 [nlb X - nlb V + 1, (runs (nl 4 (V * 2 ^ (64 * nlb V - blen V))) (nlb V) (nlb X - nlb V + 1) (nl 9 (X * 2 ^ (64 * nlb V - blen V)))).1,
      (runs (nl 4 (V * 2 ^ (64 * nlb V - blen V))) (nlb V) (nlb X - nlb V + 1) (nl 9 (X * 2 ^ (64 * nlb V - blen V)))).2]) ∧ Kept [] w w' := by
  have M := Mem.start w []
  have HX := hid hX
  have HV := hid hV
  obtain ⟨ds, ⟨p, c, rfl, hc, hc', _, hs⟩, ht, hdX⟩ := hX
  obtain ⟨es, ⟨q, ec, rfl, hec, hec', _, hes⟩, het, heV⟩ := hV
  have hn4 := nlb_le hVl
  have hL8 := nlb_le hXl
  obtain ⟨N, hzv, hs64⟩ := nrm_of h2 hn4
  obtain ⟨G, huv⟩ := good_of hXl h2 hn4 hle
  have hV0 : V ≠ 0 := by intro h; subst h; rw [nlb_zero] at h2; omega
  have hX0 : X ≠ 0 := by intro h; subst h; rw [nlb_zero] at hle; omega
  have hL : ((ds.length : Int) + 7) / 8 = (nlb X : Int) := by have := nlb_digs hs ht; rw [hdX] at this; omega
  have hn : ((es.length : Int) + 7) / 8 = (nlb V : Int) := by have := nlb_digs hes het; rw [heV] at this; omega
  have HLE := hid (fun s => norm_least (V := V) (n := nlb V) (s := s) rfl hV0)
  have hdl : ds.length ≤ 1000 := by have := nlb_digs hs ht; rw [hdX] at this; omega
  have hel : es.length ≤ 1000 := by have := nlb_digs hes het; rw [heV] at this; omega
  clear hdX heV ht het hs hes
  generalize ds.length = dl at *
  generalize es.length = el at *
  obtain ⟨s0, hs0⟩ : ∃ s, s = 64 * nlb V - blen V := ⟨_, rfl⟩
  rw [← hs0] at N hzv hs64 G huv HLE ⊢
  have hV2 : V * 2 ^ s0 < 256 ^ 32 := by
    rw [← hzv]
    have := lval_lt N.limbs
    rw [N.len] at this
    exact this
  have hX2 : X * 2 ^ s0 < 256 ^ 72 := by
    rw [← huv]
    have := lval_lt G.limbs
    rw [G.len] at this
    exact this
  have HX200 : Hid (X < 256 ^ 200) := Nat.lt_of_lt_of_le hXl (show (18446744073709551616 : Nat) ^ 8 ≤ 256 ^ 200 by decide)
  have HV200 : Hid (V < 256 ^ 200) := Nat.lt_of_lt_of_le hVl (show (18446744073709551616 : Nat) ^ 4 ≤ 256 ^ 200 by decide)
  have HPW : Hid (∀ s, s < 64 → 2 ^ s < 256 ^ 200) := fun s h => Nat.lt_of_lt_of_le (Nat.pow_lt_pow_right (by decide) h) (show (2 : Nat) ^ 64 ≤ 256 ^ 200 by decide)
  have HV2 := hid hV2
  have HX2 := hid hX2
  have HUE : Hid (∀ l : List Nat, l.length = 9 → Limbs l → lval l = X * 2 ^ s0 → l = nl 9 (X * 2 ^ s0)) := fun l h1 h2 h3 => eq_nl h2 h1 h3
  have HG0 := hid G
  have HN := hid N
  have HRL := hid (GoodD.runs_le N _ _ G)
  have HXP : Hid (0 < X * 2 ^ s0) := Nat.mul_pos (by omega) (Nat.pow_pos (by decide))
  have hs0' : s0 < 64 := hs64
  clear hs0 hs64 N G hzv huv hXl hVl hV0 hX0 hV2 hX2
  obtain ⟨n, Hn⟩ : ∃ n, Hid (n = nlb V) := ⟨_, rfl⟩
  rw [← Hn.out] at h2 hle hn4 hn HLE HG0 HN HRL ⊢
  obtain ⟨L, HLn⟩ : ∃ n, Hid (n = nlb X) := ⟨_, rfl⟩
  rw [← HLn.out] at hle hL8 hL HG0 HRL ⊢
  obtain ⟨m, hm⟩ : ∃ m, m = L - n + 1 := ⟨_, rfl⟩
  rw [← hm] at HG0 HRL ⊢
  have hm7 : m ≤ 7 := by omega
  have hmL : m + n = L + 1 := by omega
  obtain ⟨zs, hzs⟩ : ∃ x, x = nl 4 (V * 2 ^ s0) := ⟨_, rfl⟩
  obtain ⟨us0, hus0⟩ : ∃ x, x = nl 9 (X * 2 ^ s0) := ⟨_, rfl⟩
  rw [← hzs] at HN
  rw [← hus0] at HUE
  rw [← hzs, ← hus0] at HG0 HRL ⊢
  have HNW := hid (fun (v : Value) (w : World) (h : NumV w v (V * 2 ^ s0)) => natWord_any v _ w h HV2.out)
  rw [← hzs] at HNW
  obtain ⟨FF, HFF⟩ : ∃ x, Hid (x = (runs zs n m us0).1) := ⟨_, rfl⟩
  obtain ⟨BB, HBB⟩ : ∃ x, Hid (x = (runs zs n m us0).2) := ⟨_, rfl⟩
  rw [← HFF.out, ← HBB.out] at HRL ⊢
  have hFF : FF ≤ 14 := by have := HRL.out; omega
  have hBB : BB ≤ 7 := by have := HRL.out; omega
  clear HRL hzs hus0 hm Hn HLn
  have dn : ((n : Int) == 0) = false := by rw [beq_eq_false_iff_ne]; omega
  have dn1 : ((n : Int) == 1) = false := by rw [beq_eq_false_iff_ne]; omega
  have dl1 : decide ((L : Int) < (n : Int)) = false := by simp; omega
  have dl2 : decide (L < n) = false := by simp; omega
  go_enter Salg.func44, Salg.ntmps44
  go_wp2_with (first
    | ((with_reducible apply L_allocA (d := 4) M); exact zero46; clear M; intro b1 w1 hb1 M; simp only [Act.put, List.setIfInBounds_toArray, List.set_cons_zero, List.set_cons_succ])
    | ((with_reducible apply L_allocA (d := 5) M); exact zero46; clear M; intro b2 w1 hb2 M; simp only [Act.put, List.setIfInBounds_toArray, List.set_cons_zero, List.set_cons_succ])
    | ((with_reducible apply W_st8K (b := b2) (o := 0) (m := m)); rfl; rfl; (first | rfl | omega | go_num); exact M.r0; exact size5; (first | decide | simp); intro w3 K hr3; replace M := Mem.callPut (L1 := []) M (Or.inr (by assumption)) K hr3; clear K hr3; simp only [List.cons_append, List.nil_append, List.set_cons_succ, List.set_cons_zero] at M))
  simp only [hL, hn]
  go_loopw [8] (fun sv wr => ∃ s : Nat, s ≤ s0 ∧ sv = .int .u16 s ∧ Mem w [] [(b2, R8 46 [m, 0, 0]), (b1, R8 46 [0, 0, 0])] wr) (fun sv _ => s0 - (intOf sv).toNat)
  case atStart => exact ⟨0, by omega, rfl, M⟩
  case round =>
    clear M
    obtain ⟨s, hs, rfl, M⟩ := hrel
    have ds64 : decide ((s : Int) < 64) = true := by simp; omega
    have ds64' : decide (s < 64) = true := by simp; omega
    go_wp2_with fail
    refine (pow2_any s (by omega) _).mono ?_
    rintro e w2 ⟨P1, rfl, xHP1, K⟩
    have HP1 := hid xHP1
    replace M := M.call K
    clear K xHP1
    go_wp2_with fail
    refine (mul_num _ _ _ _ _ (HV.out.kept M.kept) HP1.out HV200.out (HPW.out s (by omega))).mono ?_
    rintro e w3 ⟨B1, rfl, xHB1, K⟩
    have HB1 := hid xHB1
    replace M := M.call K
    clear K xHB1
    clear HP1
    go_wp2_with fail
    refine (pow2_int (64 * (n : Int) - 1) (by omega) (by omega) _).mono ?_
    rintro e w4 ⟨P2, rfl, xHP2, K⟩
    have HP2 := hid xHP2
    replace HB1 := hid (HB1.out.kept K)
    replace M := M.call K
    clear K xHP2
    rw [show (64 * (n : Int) - 1).toNat = 64 * n - 1 from by omega] at HP2
    go_wp2_with fail
    refine (cmp_num _ _ _ _ _ HB1.out HP2.out).mono ?_
    rintro e w5 ⟨rfl, K⟩
    replace M := M.call K
    clear K
    have HCN := hid (cmpI_neg (V * 2 ^ s) (2 ^ (64 * n - 1)))
    clear HB1 HP2
    generalize cmpI (V * 2 ^ s) (2 ^ (64 * n - 1)) = cc at *
    by_cases hss : s = s0
    · subst hss
      have dcc : decide (cc < (0 : Int)) = false := by
        have h1 := HCN.out; have h2 := HLE.out s
        simp only [decide_eq_false_iff_not]
        intro h
        exact absurd (h2.1 (h1.1 h)) (Nat.lt_irrefl _)
      clear HCN HLE
      go_wp2_with fail
      refine (pow2_any s (by omega) _).mono ?_
      rintro e w6 ⟨P3, rfl, xHP3, K⟩
      have HP3 := hid xHP3
      replace M := M.call K
      clear K xHP3
      go_wp2_with fail
      refine (mul_num _ _ _ _ _ (HV.out.kept M.kept) HP3.out HV200.out (HPW.out s (by omega))).mono ?_
      rintro e w7 ⟨B2, rfl, xHB2, K⟩
      have HB2 := hid xHB2
      replace M := M.call K
      clear K xHB2
      clear HP3 HV
      go_wp2_with fail
      refine (HNW.out _ _ HB2.out).mono ?_
      rintro e w8 ⟨rfl, K⟩
      replace M := M.call K
      clear K
      clear HB2 HNW
      have hzl : zs.length = 4 := HN.out.len
      go_wp2_with (first
        | ((with_reducible apply L_allocA (d := 9) M); exact zero25; clear M; intro b3 w1 hb3 M; simp only [Act.put, List.setIfInBounds_toArray, List.set_cons_zero, List.set_cons_succ])
        | ((with_reducible apply W_storeK (b := b3)); rfl; rfl; exact M.r0; exact size25; (simp [hzl]); exact one64 _; intro w3 K hr3; replace M := Mem.callPut (L1 := []) M (Or.inr (by assumption)) K hr3; clear K hr3; simp only [List.cons_append, List.nil_append] at M)
        | ((with_reducible apply L_allocA (d := 10) M); exact zero31; clear M; intro b4 w1 hb4 M; simp only [Act.put, List.setIfInBounds_toArray, List.set_cons_zero, List.set_cons_succ]))
      refine (pow2_any s (by omega) _).mono ?_
      rintro e w9 ⟨P4, rfl, xHP4, K⟩
      have HP4 := hid xHP4
      replace M := M.call K
      clear K xHP4
      go_wp2_with fail
      refine (mul_num _ _ _ _ _ (HX.out.kept M.kept) HP4.out HX200.out (HPW.out s (by omega))).mono ?_
      rintro e w10 ⟨D1, rfl, xHD1, K⟩
      have HD1 := hid xHD1
      replace M := M.call K
      clear K xHD1
      clear HP4 HX HX200 HV200 HPW
      obtain ⟨fs, ⟨pD, cD, rfl, hcD, hcD', hdD, hsD⟩, htD, hvD⟩ := HD1.out
      clear HD1
      have hf72 : fs.length ≤ 72 := htD.short (by rw [hvD]; exact HX2.out)
      have hf0 : 0 < fs.length := by
        rcases Nat.eq_zero_or_pos fs.length with h | h
        · have := HXP.out
          rw [← hvD, List.length_eq_zero_iff.1 h] at this
          exact absurd this (by simp [val])
        · exact h
      obtain ⟨bD, tD, cs, rfl, hrD, hpre⟩ := hdD.at hf0
      have hcs0 : cs ≠ [] := by
        intro h; rw [h] at hpre
        have := hpre.length_le
        rw [List.length_nil] at this; omega
      have hbD : bD ≠ b4 := by
        intro h
        subst h
        have h1 := M.r0
        rw [hrD] at h1
        have h1 := congrArg (fun o : Option Obj => match o with | some (.cells a _ _) => a.toList.head? | _ => none) h1
        obtain ⟨c0, cs', rfl⟩ := List.exists_cons_of_ne_nil hcs0
        simp at h1
      have HPR : Hid (∀ i (h : i < fs.length), cs[i]? = some fs[i]) := fun i h => pre_get hpre h
      have HSF := hid hsD
      have HUF : Hid (∀ l : List Nat, l.length = 9 → Limbs l → lval l = val fs → l = us0) := fun l h1 h2 h3 => HUE.out l h1 h2 (by rw [h3, hvD])
      clear HUE hdD hsD htD hvD hcs0 hpre HX2 HV2 HXP
      obtain ⟨fl, HFL⟩ : ∃ x, Hid (x = fs.length) := ⟨_, rfl⟩
      rw [← HFL.out] at hf72 hf0 hcD ⊢
      go_wp2_with fail
      go_loopw [69] (fun iv wr => ∃ (i : Nat) (us : List Nat), i ≤ fl ∧ iv = .int .i64 i ∧ us.length = 9 ∧ Limbs us ∧ lval us = val (fs.take i) ∧ wr.heap[bD]? = some (R8 tD cs) ∧
          Mem w [] [(b4, R64 31 us), (b3, R64 25 zs), (b2, R8 46 [m, 0, 0]), (b1, R8 46 [0, 0, 0])] wr) (fun iv _ => fl - (intOf iv).toNat)
      case atStart => exact ⟨0, List.replicate 9 0, by omega, rfl, rfl, by intro x hx; simp at hx; omega, rfl, hrD, M⟩
      case round =>
        clear M hrD
        obtain ⟨i, us, hi, rfl, hul, huL, huv, hrD, M⟩ := hrel
        have HUL := hid huL
        have HUV := hid huv
        clear huL huv
        by_cases hif : i = fl
        · subst hif
          have HE : Hid (us = us0) := HUF.out us hul HUL.out (by rw [HUV.out, List.take_of_length_le (by have := HFL.out; omega)])
          rw [HE.out] at M
          have d1 : decide ((i : Int) < (i : Int)) = false := by simp
          have d2 : decide (i < i) = false := by simp
          clear HE HUL HUV HUF HSF HPR hul
          go_wp2_with fail
          go_loopw [13] (fun jv wr => ∃ (j : Nat) (us : List Nat) (f bk : Nat), j ≤ m ∧ jv = .int .i64 j ∧ Hid (GoodD us zs n j) ∧ f + (runs zs n j us).1 = FF ∧ bk + (runs zs n j us).2 = BB ∧
              Mem w [] [(b4, R64 31 us), (b3, R64 25 zs), (b2, R8 46 [m, f, bk]), (b1, R8 46 [0, 0, 0])] wr) (fun jv _ => (intOf jv).toNat)
          case atStart =>
            exact ⟨m, us0, 0, 0, Nat.le_refl _, by go_num, HG0, by rw [Nat.zero_add]; exact HFF.out.symm, by rw [Nat.zero_add]; exact HBB.out.symm, M⟩
          case round =>
            clear M HFF HBB HG0 hrD
            obtain ⟨j, us3, f, bk, hj, rfl, HG, hf, hbk, M⟩ := hrel
            have HF := hid hf
            have HB := hid hbk
            clear hf hbk
            match j, hj, HG, HF, HB with
            | 0, hj, HG, HF, HB =>
              obtain rfl : f = FF := by have := HF.out; simp only [runs, Nat.add_zero] at this; exact this
              obtain rfl : bk = BB := by have := HB.out; simp only [runs, Nat.add_zero] at this; exact this
              clear HF HB HG
              go_wp2_with (first
                | ((with_reducible apply W_loadAll); rfl; (first | with_reducible exact M.r0 | with_reducible exact M.r1 | with_reducible exact M.r2 | with_reducible exact M.r3 | with_reducible exact M.r4 | with_reducible exact M.r5 | with_reducible exact M.r6 | assumption | exact M.kept.row (by assumption) (by simp)); exact Salg.underlying46; rfl; (first | with_reducible exact size46 | (rw [size46]; simp [])); simp only [Act.put, List.setIfInBounds_toArray, List.set_cons_zero, List.set_cons_succ])
                | ((with_reducible apply W_storeK (b := b1)); rfl; rfl; exact M.r3; (first | exact size25 | exact size46 | exact size31); (first | rfl | simp [nl_length]); (first | exact one8 _ | exact one64 _); intro w3 K hr3; replace M := Mem.callPut (L1 := [_, _, _]) M (Or.inr (by assumption)) K hr3; clear K hr3; simp only [List.cons_append, List.nil_append] at M))
              exact ret_cell1 Salg.results44 rfl M.r3 Salg.underlying46 rfl size46 rfl ⟨rfl, M.kept⟩
            | j + 1, hj, HG, HF, HB =>
              have HMID := hid (GoodD.mid HN.out HG.out)
              have HST := hid (GoodD.step HN.out HG.out)
              have hne : b4 ≠ b3 := M.ne01
              have HRD := hid (fun (w : World) (h1 : w.heap[b4]? = some (R64 31 us3)) (h2 : w.heap[b3]? = some (R64 25 zs)) => Round_any b4 b3 31 25 us3 zs n j w h1 h2 hne HG.out.len HN.out.len HG.out.limbs HN.out.limbs HMID.out)
              simp only [runs] at HF HB
              generalize rt (win us3 n j) zs n - rq (win us3 n j) zs n = fx at *
              generalize rb (win us3 n j) zs n = back at *
              have hq64 : lval (win us3 n j) / lval (zs.take n) < 18446744073709551616 := HST.out.2.2.1
              generalize lval (win us3 n j) / lval (zs.take n) = q at *
              generalize roundU us3 zs n j = us2 at *
              have hfx : f + fx ≤ 14 := by have := HF.out; omega
              have HG2 : Hid (GoodD us2 zs n j) := HST.out.1
              clear HST HMID HG hne
              go_wp2_with fail
              refine (HRD.out _ M.r0 M.r1).mono ?_
              rintro e w15 ⟨rfl, K, hr3⟩
              replace M := Mem.callPut (L1 := []) M (Or.inr (by assumption)) K hr3
              simp only [List.cons_append, List.nil_append] at M
              clear K hr3 HRD
              cases back with
              | false =>
                go_wp2_with (first
                  | ((with_reducible apply W_loadCell (i := 1)); rfl; exact M.r2; exact get_map rfl; exact Salg.underlying5; rfl; simp only [Act.put, List.setIfInBounds_toArray, List.set_cons_zero, List.set_cons_succ])
                  | ((with_reducible apply W_st8K (b := b2) (o := 1) (m := f + fx)); rfl; rfl; (first | rfl | omega | go_num); exact M.r2; exact size5; (first | decide | simp); intro w3 K hr3; replace M := Mem.callPut (L1 := [_, _]) M (Or.inr (by assumption)) K hr3; clear K hr3; simp only [List.cons_append, List.nil_append, List.set_cons_succ, List.set_cons_zero] at M))
                go_roundw
                case rel => exact ⟨j, us2, f + fx, bk, by omega, by go_num, HG2, by have := HF.out; omega, by have := HB.out; simp only [Bool.false_eq_true, if_false, Nat.zero_add] at this; exact this, M⟩
                case measure => simp [intOf]
              | true =>
                have hbk2 : bk + 1 ≤ 7 := by have := HB.out; simp only [if_true] at this; omega
                go_wp2_with (first
                  | ((with_reducible apply W_loadCell (i := 1)); rfl; exact M.r2; exact get_map rfl; exact Salg.underlying5; rfl; simp only [Act.put, List.setIfInBounds_toArray, List.set_cons_zero, List.set_cons_succ])
                  | ((with_reducible apply W_st8K (b := b2) (o := 1) (m := f + fx)); rfl; rfl; (first | rfl | omega | go_num); exact M.r2; exact size5; (first | decide | simp); intro w3 K hr3; replace M := Mem.callPut (L1 := [_, _]) M (Or.inr (by assumption)) K hr3; clear K hr3; simp only [List.cons_append, List.nil_append, List.set_cons_succ, List.set_cons_zero] at M)
                  | ((with_reducible apply W_loadCell (i := 2)); rfl; exact M.r2; exact get_map rfl; exact Salg.underlying5; rfl; simp only [Act.put, List.setIfInBounds_toArray, List.set_cons_zero, List.set_cons_succ])
                  | ((with_reducible apply W_st8K (b := b2) (o := 2) (m := bk + 1)); rfl; rfl; (first | rfl | omega | go_num); exact M.r2; exact size5; (first | decide | simp); intro w3 K hr3; replace M := Mem.callPut (L1 := [_, _]) M (Or.inr (by assumption)) K hr3; clear K hr3; simp only [List.cons_append, List.nil_append, List.set_cons_succ, List.set_cons_zero] at M))
                go_roundw
                case rel => exact ⟨j, us2, f + fx, bk + 1, by omega, by go_num, HG2, by have := HF.out; omega, by have := HB.out; simp only [if_true] at this; omega, M⟩
                case measure => simp [intOf]
        · have hi2 : i < fs.length := by have := HFL.out; omega
          have hifl : i < fl := by omega
          have hgd : cs[i]? = some fs[i] := HPR.out i hi2
          have hd8 : fs[i] < 256 := HSF.out _ (List.getElem_mem hi2)
          have hj : i / 8 < us.length := by omega
          have hgl : us[i / 8]? = some us[i / 8] := List.getElem?_eq_getElem hj
          have hlt : lval us < 256 ^ i := by
            rw [HUV.out]
            have := val_lt (HSF.out.take i)
            rwa [List.length_take, Nat.min_eq_left (by omega)] at this
          have HY := hid (lay hj hlt hd8)
          have HTK : Hid (val (fs.take (i + 1)) = lval us + 256 ^ i * fs[i]) := by show _ = _; rw [val_take_succ hi2, HUV.out]
          have hlb : us[i / 8] < 18446744073709551616 := HUL.out.get hj
          clear HUV hlt
          generalize fs[i] = d at *
          generalize us[i / 8] = x at *
          have hval : bits .or .u64 (x : Int) (IntKind.u64.wrap ((d : Int) * 2 ^ (8 * (i % 8)))) = ((x + d * 2 ^ (8 * (i % 8)) : Nat) : Int) := by
            rw [wrap_shl, Nat.mod_eq_of_lt HY.out.2.2.1, bits_or_u64_nat _ _ hlb HY.out.2.2.1, HY.out.1]
          have HLV := hid hval
          clear hval
          go_wp2_with ((with_reducible apply W_loadCell); rfl; (first | with_reducible exact M.r0 | with_reducible exact M.r1 | with_reducible exact M.r2 | with_reducible exact M.r3 | with_reducible exact M.r4 | with_reducible exact M.r5 | with_reducible exact M.r6 | assumption | exact M.kept.row (by assumption) (by simp)); (first | exact get_map (by assumption) | exact get_map rfl | rfl); exact Salg.underlying5; rfl; simp only [Act.put, List.setIfInBounds_toArray, List.set_cons_zero, List.set_cons_succ])
          refine S_region (by kernel_rfl) ?_
          have M5 : Mem wr [] [(b4, R64 31 us)] wr := (Mem.start wr []).add M.r0 (by simp)
          refine V_quiet 0 12 (by kernel_rfl) (by decide) M5.drew ?_
          clear M5
          simp only [List.take_succ_cons, List.take_zero, List.drop_zero, List.drop_succ_cons, Nat.sub_zero, Nat.reduceSub]
          ((with_reducible apply V_run); rfl; (intro w M; go_simp; (try go_ints); (try simp only [↓IntWalk.iteOmega]); (try with_reducible rfl)); simp only [Act.put, List.setIfInBounds_toArray, List.set_cons_zero, List.set_cons_succ])
          ((with_reducible apply V_run); rfl; (intro w M; go_simp; (try go_ints); (try simp only [↓IntWalk.iteOmega]); (try with_reducible rfl)); simp only [Act.put, List.setIfInBounds_toArray, List.set_cons_zero, List.set_cons_succ])
          ((with_reducible apply V_run); rfl; (intro w M; go_simp; (try go_ints); (try simp only [↓IntWalk.iteOmega]); (try with_reducible rfl)); simp only [Act.put, List.setIfInBounds_toArray, List.set_cons_zero, List.set_cons_succ])
          ((with_reducible apply V_run); rfl; (intro w M; exact run_loadCell (by (first | with_reducible exact M.r0 | with_reducible exact M.r1 | with_reducible exact M.r2 | with_reducible exact M.r3 | with_reducible exact M.r4 | with_reducible exact M.r5 | with_reducible exact M.r6 | assumption | exact M.kept.row (by assumption) (by simp))) rfl (by (first | exact get_map (by assumption) | exact get_map rfl | rfl)) Salg.underlying23 rfl); simp only [Act.put, List.setIfInBounds_toArray, List.set_cons_zero, List.set_cons_succ])
          ((with_reducible apply V_run); rfl; (intro w M; go_simp; (try go_ints); (try simp only [↓IntWalk.iteOmega]); (try with_reducible rfl)); simp only [Act.put, List.setIfInBounds_toArray, List.set_cons_zero, List.set_cons_succ])
          ((with_reducible apply V_run); rfl; (intro w M; go_simp; (try go_ints); (try simp only [↓IntWalk.iteOmega]); (try with_reducible rfl)); simp only [Act.put, List.setIfInBounds_toArray, List.set_cons_zero, List.set_cons_succ])
          ((with_reducible apply V_run); rfl; (intro w M; go_simp; (try go_ints); (try simp only [↓IntWalk.iteOmega]); (try with_reducible rfl)); simp only [Act.put, List.setIfInBounds_toArray, List.set_cons_zero, List.set_cons_succ])
          ((with_reducible apply V_run); rfl; (intro w M; go_simp; (try go_ints); (try simp only [↓IntWalk.iteOmega]); (try with_reducible rfl)); simp only [Act.put, List.setIfInBounds_toArray, List.set_cons_zero, List.set_cons_succ])
          ((with_reducible apply V_run); rfl; (intro w M; go_simp; (try go_ints); (try simp only [↓IntWalk.iteOmega]); (try with_reducible rfl)); simp only [Act.put, List.setIfInBounds_toArray, List.set_cons_zero, List.set_cons_succ])
          ((with_reducible apply V_run); rfl; (intro w M; go_simp; (try go_ints); (try simp only [↓IntWalk.iteOmega]); (try with_reducible rfl)); simp only [Act.put, List.setIfInBounds_toArray, List.set_cons_zero, List.set_cons_succ])
          ((with_reducible apply V_run); rfl; (intro w M; go_simp; (try go_ints); (try simp only [↓IntWalk.iteOmega]); (try with_reducible rfl)); simp only [Act.put, List.setIfInBounds_toArray, List.set_cons_zero, List.set_cons_succ])
          ((with_reducible apply V_run); rfl; (intro w M; go_simp; (try go_ints); (try simp only [↓IntWalk.iteOmega]); (try with_reducible rfl)); simp only [Act.put, List.setIfInBounds_toArray, List.set_cons_zero, List.set_cons_succ])
          refine V_nil ?_
          intro w14 M5
          replace M := M.call M5.kept
          replace hrD := M5.kept.row hrD (by simp)
          clear M5
          refine S_seg 12 13 (by kernel_rfl) (by decide) ?_
          simp only [List.take_succ_cons, List.take_zero, List.drop_zero, List.drop_succ_cons, Nat.sub_zero, Nat.reduceSub]
          go_wp2_with ((with_reducible apply W_st64K (b := b4) (o := i / 8) (m := x + d * 2 ^ (8 * (i % 8)))); rfl; rfl; exact HLV.out; exact M.r0; exact size23; omega; intro w3 K hr3; replace M := Mem.callPut (L1 := []) M (Or.inr (by assumption)) K hr3; replace hrD := K.row hrD (by simp; exact hbD); clear K hr3; simp only [List.cons_append, List.nil_append] at M)
          refine S_done ?_
          go_wp2_with fail
          go_roundw
          case rel => exact ⟨i + 1, us.set (i / 8) (x + d * 2 ^ (8 * (i % 8))), by omega, by go_num, by simp [hul], HUL.out.set HY.out.2.1, by rw [HY.out.2.2.2, HTK.out], hrD, M⟩
          case measure => simp [intOf]; omega
    · have dcc : decide (cc < (0 : Int)) = true := by
        have h1 := HCN.out; have h2 := HLE.out s
        simp only [decide_eq_true_eq]
        exact h1.2 (h2.2 (by omega))
      clear HCN
      go_wp2_with fail
      go_roundw
      case rel => exact ⟨s + 1, by omega, by go_num, M⟩
      case measure => simp [intOf]; omega
end Go.Proofs.Ygcsal

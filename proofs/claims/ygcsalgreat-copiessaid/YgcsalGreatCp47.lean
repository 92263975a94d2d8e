/-
  The walk of law.Copies, its program, its run and its judgement as premises.
-/
import Derived.Test.YgcsalGreatCp38
import Derived.Test.YgcsalGreatCp39
import Derived.Test.YgcsalGreatCp45
set_option linter.unusedSimpArgs false
set_option linter.unusedVariables false
namespace Go.Proofs.YgcsalGreat
open Go.RowKit Go.Own
theorem tx_set (dv : Value) : txL.toArray.setIfInBounds 107 dv = (txP dv).toArray := by kernel_rfl
theorem row_at8 {w : World} {v : Value} {ds : List Nat} (h : RowV w 5 v (ds.map n8)) (h0 : 0 < ds.length) : ∃ g cap, v = .slice (some ⟨g, 0, none⟩) ds.length cap := by
  obtain ⟨g, cap, cur, rfl, _⟩ := h.pos (by simpa using h0)
  exact ⟨g, cap, by rw [List.length_map]⟩
def echoL : List Nat := [54, 95, 95, 55, 54, 95, 243]
theorem size49T : (Salg.prog.info? 49).map (·.size) = some txL.toArray.size := by kernel_rfl
theorem sizeP (dv : Value) : (Salg.prog.info? 49).map (·.size) = some (txP dv).toArray.size := by kernel_rfl
theorem tx_no : ∀ t l, Obj.cells txL.toArray 49 (0, 0) ≠ R8 t l := not_bytes_at (cs := txL.toArray) (tc := 49) (i := 107) (p := none) (n := 0) (m := 0) (by kernel_rfl)

set_option maxHeartbeats 4000000 in
set_option maxRecDepth 100000 in
theorem copies_as (kind dst src n : Nat) (far : Bool) (K : Nat) (D s N : Nat) (p : Option Addr) (len cap : Nat) (dd pr : List Nat) (RcOK : World → Value → Prop) (w : World) (hkept : ∀ w w' v, RcOK w v → Kept [] w w' → RcOK w' v) (hK : kind % 7 = K) (hD : dst % 64 = D) (hs : src % 64 = s) (hN : n % 64 = N) (h3 : K ≠ 3) (hlen : len ≤ 96) (hdd : dd.length = len) (hdv : DatV w (Value.slice p len cap) dd) (hpr : 0 < pr.length) (hpr2 : pr.length ≤ 256) (hprs : Small pr)
    (hP : ∀ w, Calls Salg.prog 21 #[n8 K, n8 D, n8 s, n8 N, .bool far, .int .i64 ((len : Nat) : Int)] w fun e w' => ∃ v, e = .returned v ∧ RowV w' 5 v (pr.map n8) ∧ Kept [] w w')
    (hA : ∀ (v u1 u2 : Value) (pd : Option Addr) (cd : Nat) (w : World), OasV w v [oaN 1 u1, oaN 2 u2, oaB] → NatV w u1 pr → NatV w u2 echoL → NatV w (Value.slice pd len cd) dd → Calls Salg.prog 25 #[v, .agg (txP (Value.slice pd len cd)).toArray] w fun e w' => ∃ rc, e = .returned rc ∧ RcOK w' rc ∧ Kept [] w w')
    (hH : ∀ (w : World) (pv rc : Value), DatV w (Value.slice p len cap) dd → RowV w 5 pv (pr.map n8) → RcOK w rc → Calls Salg.prog 24 #[n8 K, n8 D, n8 s, n8 N, .bool far, Value.slice p len cap, pv, rc] w fun e w' => e = .returned (.bool true) ∧ Kept [] w w') :
    Calls Salg.prog 5 #[.int .u8 (kind : Int), .int .u8 (dst : Int), .int .u8 (src : Int), .int .u8 (n : Int), .bool far, .slice p len cap] w fun e w' => e = .returned (.bool true) ∧ Kept [] w w' := by
  have M := Mem.start w []
  have HK : Hid ((kind : Int) % 7 = ((K : Nat) : Int)) := by show _ = _; omega
  have HD : Hid ((dst : Int) % 64 = (D : Int)) := by show _ = _; omega
  have HS : Hid ((src : Int) % 64 = (s : Int)) := by show _ = _; omega
  have HN : Hid ((n : Int) % 64 = (N : Int)) := by show _ = _; omega
  have HP := hid hP
  have HA := hid hA
  have HH := hid hH
  have HKE := hid hkept
  have HDV := hid hdv
  have HPR := hid hpr
  have HPRS := hid hprs
  have HPR2 := hid hpr2
  have HDD := hid hdd
  have dk3 : decide ((K : Int) = 3) = false := by simp; omega
  have ek3 : decide (K = 3) = false := by simp; omega
  have bk3 : ((K : Int) == 3) = false := by rw [beq_eq_false_iff_ne]; omega
  clear hP hA hH hkept hdv hpr hprs hpr2 hdd hK hD hs hN h3
  go_enter Salg.func5, Salg.ntmps5
  go_wp2_with fail
  rw [HK.out, HD.out, HS.out, HN.out]
  refine (HP.out _).mono ?_
  rintro e w2 ⟨pv, rfl, xP, K1⟩
  have HPV := hid xP
  replace M := M.call K1
  clear K1 xP HP
  obtain ⟨pg, pc, rfl⟩ := row_at8 HPV.out HPR.out
  go_wp2_with fail
  refine (echo_any _).mono ?_
  rintro e w3 ⟨ev, rfl, xE, K1⟩
  have HEV := hid xE
  replace HPV := hid (HPV.out.kept K1)
  replace M := M.call K1
  clear K1 xE
  obtain ⟨eg, ec, rfl⟩ := row_at8 (ds := [54, 95, 95, 55, 54, 95, 243]) HEV.out (by decide)
  go_wp2_with (first
    | ((with_reducible apply W_buildN (d := 39) (vs := #[Value.slice (some ⟨pg, 0, none⟩) pr.length pc, Value.slice (some ⟨eg, 0, none⟩) 7 ec]) (e := 40) M); kernel_rfl; clear M; intro bn wn hbn hbn2 KB M; replace HPV := hid (HPV.out.kept KB); replace HEV := hid (HEV.out.kept KB); clear KB hbn2; simp only [Act.put, List.setIfInBounds_toArray, List.set_cons_zero, List.set_cons_succ])
    | fail)
  refine (toA1_any _).mono ?_
  rintro e w5 ⟨rfl, K1⟩
  replace HPV := hid (HPV.out.kept K1)
  replace HEV := hid (HEV.out.kept K1)
  replace M := M.call K1
  clear K1
  go_wp2_with (first
    | ((with_reducible apply L_allocN (d := 15) M); exact zero49; clear M; intro t15 w6 ht15 ht15N KQ M; clear ht15N; replace HPV := hid (HPV.out.kept KQ); replace HEV := hid (HEV.out.kept KQ); clear KQ; simp only [Act.put, List.setIfInBounds_toArray, List.set_cons_zero, List.set_cons_succ])
    | ((with_reducible apply W_storeK (b := t15) (vs := txL.toArray)); rfl; rfl; exact M.r0; exact size49; rfl; exact oneL rfl; intro w7 KQ hr; replace HPV := hid (HPV.out.keptC KQ M.r0 (by decide)); replace HEV := hid (HEV.out.keptC KQ M.r0 (by decide)); replace M := Mem.callPut (L1 := []) M (Or.inr ht15) KQ hr; clear KQ hr; simp only [List.cons_append, List.nil_append] at M))
  refine (copyBytes_dat _ dd _ (HDV.out.kept M.kept) (by rw [HDD.out]; omega)).mono ?_
  rintro e w8 ⟨u, rfl, xU, K1⟩
  have HUV := hid xU
  replace HPV := hid (HPV.out.kept K1)
  replace HEV := hid (HEV.out.kept K1)
  replace M := M.call K1
  clear K1 xU
  obtain ⟨pd, cd, ePD⟩ : ∃ pd cd, u = Value.slice pd len cd := by
    obtain ⟨q, c, e, _⟩ := HUV.out
    exact ⟨q, c, by rw [e, HDD.out]⟩
  subst ePD
  go_wp2_with ((with_reducible apply W_stC (b := t15) (o := 107) (v := Value.slice pd len cd)); rfl; rfl; rfl; exact M.r0; exact size40; (exact Nat.le_of_ble_eq_true rfl); intro w9 KQ hr; rw [tx_set] at hr; replace HPV := hid (HPV.out.keptC KQ M.r0 (by decide)); replace HEV := hid (HEV.out.keptC KQ M.r0 (by decide)); replace HUV := hid (HUV.out.keptC KQ M.r0 tx_no); replace M := Mem.callPut (L1 := []) M (Or.inr ht15) KQ hr; clear KQ hr; simp only [List.cons_append, List.nil_append] at M)
  refine S_region (by kernel_rfl) ?_
  replace HPV := hid (HPV.out.kept (Kept.refl [] _).drew)
  replace HEV := hid (HEV.out.kept (Kept.refl [] _).drew)
  replace HUV := hid (HUV.out.kept (Kept.refl [] _).drew)
  refine E_stage 0 13 [0, 1, 2, 3, 4, 5, 6, 7, 9, 8, 10, 11, 12] (by kernel_rfl) M.drew ?_
  clear M
  simp only [List.filterMap_cons, List.filterMap_nil, List.getElem?_cons_zero, List.getElem?_cons_succ]
  ((with_reducible apply E_run); rfl; rfl; (intro w M; go_simp; (try go_ints); (try simp only [↓IntWalk.iteOmega]); (try with_reducible rfl)); simp only [Act.put, List.setIfInBounds_toArray, List.set_cons_zero, List.set_cons_succ])
  ((with_reducible apply E_run); rfl; rfl; (intro w M; go_simp; (try go_ints); (try simp only [↓IntWalk.iteOmega]); (try with_reducible rfl)); simp only [Act.put, List.setIfInBounds_toArray, List.set_cons_zero, List.set_cons_succ])
  ((with_reducible apply E_run); rfl; rfl; (intro w M; go_simp; (try go_ints); (try simp only [↓IntWalk.iteOmega]); (try with_reducible rfl)); simp only [Act.put, List.setIfInBounds_toArray, List.set_cons_zero, List.set_cons_succ])
  ((with_reducible apply E_run); rfl; rfl; (intro w M; go_simp; (try go_ints); (try simp only [↓IntWalk.iteOmega]); (try with_reducible rfl)); simp only [Act.put, List.setIfInBounds_toArray, List.set_cons_zero, List.set_cons_succ])
  ((with_reducible apply E_run); rfl; rfl; (intro w M; go_simp; (try go_ints); (try simp only [↓IntWalk.iteOmega]); (try with_reducible rfl)); simp only [Act.put, List.setIfInBounds_toArray, List.set_cons_zero, List.set_cons_succ])
  ((with_reducible apply E_run); rfl; rfl; (intro w M; go_simp; (try go_ints); (try simp only [↓IntWalk.iteOmega]); (try with_reducible rfl)); simp only [Act.put, List.setIfInBounds_toArray, List.set_cons_zero, List.set_cons_succ])
  ((with_reducible apply E_run); rfl; rfl; (intro w M; go_simp; (try go_ints); (try simp only [↓IntWalk.iteOmega]); (try with_reducible rfl)); simp only [Act.put, List.setIfInBounds_toArray, List.set_cons_zero, List.set_cons_succ])
  ((with_reducible apply E_run); rfl; rfl; (intro w M; go_simp; (try go_ints); (try simp only [↓IntWalk.iteOmega]); (try with_reducible rfl)); simp only [Act.put, List.setIfInBounds_toArray, List.set_cons_zero, List.set_cons_succ])
  ((with_reducible apply E_run); rfl; rfl; (intro w M; exact run_loadAll M.r0 rfl Salg.underlying49 rfl (sizeP _)); simp only [Act.put, List.setIfInBounds_toArray, List.set_cons_zero, List.set_cons_succ])
  refine E_call rfl Salg.func14 (by kernel_rfl) (by kernel_rfl) (args := [.slice (some ⟨bn, 0, none⟩) 2 2]) rfl ?_
  intro w10 K1 M
  replace HPV := hid (HPV.out.kept K1)
  replace HEV := hid (HEV.out.kept K1)
  replace HUV := hid (HUV.out.kept K1)
  clear K1
  refine (stage_gen bn _ _ _ _ _ _ pr echoL w10 M.r1 (fun w' K' => copyBytes_row _ pr w' (HPV.out.kept K') HPR.out (Nat.le_trans HPR2.out (by decide)) HPRS.out) (fun w' K' => copyBytes_row _ echoL w' (HEV.out.kept K') (by decide) (by decide) (fun x hx => by simp [echoL] at hx; omega)) rfl (by decide) HPR2.out (by decide)).mono ?_
  rintro e w11 ⟨sv, u1, u2, rfl, xO, x1, x2, K1⟩
  have HOA := hid xO
  have HU1 := hid x1
  have HU2 := hid x2
  replace HPV := hid (HPV.out.kept K1)
  replace HUV := hid (HUV.out.kept K1)
  replace M := M.call K1
  clear K1 xO x1 x2 HEV
  refine ⟨_, rfl, trivial, M, ?_⟩
  simp only [Act.put, List.setIfInBounds_toArray, List.set_cons_zero, List.set_cons_succ]
  refine E_call rfl Salg.func25 (by kernel_rfl) (by kernel_rfl) (args := [sv, .agg (txP (Value.slice pd len cd)).toArray]) rfl ?_
  intro w12 K1 M
  refine (HA.out sv u1 u2 pd cd w12 (HOA.out.kept K1) (HU1.out.kept K1) (HU2.out.kept K1) (HUV.out.kept K1)).mono ?_
  replace HPV := hid (HPV.out.kept K1)
  clear K1 HOA HU1 HU2 HUV
  rintro e w13 ⟨rc, rfl, xR, K1⟩
  have HRC := hid xR
  replace HPV := hid (HPV.out.kept K1)
  replace M := M.call K1
  clear K1 xR
  refine ⟨_, rfl, trivial, M, ?_⟩
  simp only [Act.put, List.setIfInBounds_toArray, List.set_cons_zero, List.set_cons_succ]
  refine E_call rfl Salg.func24 (by kernel_rfl) (by kernel_rfl) (args := [n8 K, n8 D, n8 s, n8 N, .bool far, Value.slice p len cap, Value.slice (some ⟨pg, 0, none⟩) pr.length pc, rc]) rfl ?_
  intro w14 K1 M
  refine (HH.out w14 _ rc (HDV.out.kept M.kept) (HPV.out.kept K1) (HKE.out _ _ _ HRC.out K1)).mono ?_
  clear K1 HPV HRC
  rintro e w15 ⟨rfl, K1⟩
  replace M := M.call K1
  clear K1
  refine ⟨_, rfl, trivial, M, ?_⟩
  simp only [Act.put, List.setIfInBounds_toArray, List.set_cons_zero, List.set_cons_succ]
  ((with_reducible apply E_run); rfl; rfl; (intro w M; go_simp; (try go_ints); (try simp only [↓IntWalk.iteOmega]); (try with_reducible rfl)); simp only [Act.put, List.setIfInBounds_toArray, List.set_cons_zero, List.set_cons_succ])
  refine E_nil ?_
  intro w18 K M
  clear K
  refine S_done ?_
  go_wp2_with fail
  go_ret
  exact ⟨rfl, M.kept⟩

set_option maxHeartbeats 4000000 in
set_option maxRecDepth 100000 in
theorem copies_cut (kind dst src n : Nat) (far : Bool) (K : Nat) (D s N : Nat) (p : Option Addr) (len cap : Nat) (dd pr : List Nat) (RcOK : World → Value → Prop) (w : World) (hkept : ∀ w w' v, RcOK w v → Kept [] w w' → RcOK w' v) (hK : kind % 7 = K) (hD : dst % 64 = D) (hs : src % 64 = s) (hN : n % 64 = N) (h3 : K ≠ 3) (hlen : 96 < len) (hcap : 96 ≤ cap) (hdd : dd.length = 96) (hdv : DatV w (Value.slice p 96 96) dd) (hpr : 0 < pr.length) (hpr2 : pr.length ≤ 256) (hprs : Small pr)
    (hP : ∀ w, Calls Salg.prog 21 #[n8 K, n8 D, n8 s, n8 N, .bool far, .int .i64 ((96 : Nat) : Int)] w fun e w' => ∃ v, e = .returned v ∧ RowV w' 5 v (pr.map n8) ∧ Kept [] w w')
    (hA : ∀ (v u1 u2 : Value) (pd : Option Addr) (cd : Nat) (w : World), OasV w v [oaN 1 u1, oaN 2 u2, oaB] → NatV w u1 pr → NatV w u2 echoL → NatV w (Value.slice pd 96 cd) dd → Calls Salg.prog 25 #[v, .agg (txP (Value.slice pd 96 cd)).toArray] w fun e w' => ∃ rc, e = .returned rc ∧ RcOK w' rc ∧ Kept [] w w')
    (hH : ∀ (w : World) (pv rc : Value), DatV w (Value.slice p 96 96) dd → RowV w 5 pv (pr.map n8) → RcOK w rc → Calls Salg.prog 24 #[n8 K, n8 D, n8 s, n8 N, .bool far, Value.slice p 96 96, pv, rc] w fun e w' => e = .returned (.bool true) ∧ Kept [] w w') :
    Calls Salg.prog 5 #[.int .u8 (kind : Int), .int .u8 (dst : Int), .int .u8 (src : Int), .int .u8 (n : Int), .bool far, .slice p len cap] w fun e w' => e = .returned (.bool true) ∧ Kept [] w w' := by
  have M := Mem.start w []
  have HK : Hid ((kind : Int) % 7 = ((K : Nat) : Int)) := by show _ = _; omega
  have HD : Hid ((dst : Int) % 64 = (D : Int)) := by show _ = _; omega
  have HS : Hid ((src : Int) % 64 = (s : Int)) := by show _ = _; omega
  have HN : Hid ((n : Int) % 64 = (N : Int)) := by show _ = _; omega
  have HP := hid hP
  have HA := hid hA
  have HH := hid hH
  have HKE := hid hkept
  have HDV := hid hdv
  have HPR := hid hpr
  have HPRS := hid hprs
  have HPR2 := hid hpr2
  have HDD := hid hdd
  have dk3 : decide ((K : Int) = 3) = false := by simp; omega
  have ek3 : decide (K = 3) = false := by simp; omega
  have bk3 : ((K : Int) == 3) = false := by rw [beq_eq_false_iff_ne]; omega
  clear hP hA hH hkept hdv hpr hprs hpr2 hdd hK hD hs hN h3
  go_enter Salg.func5, Salg.ntmps5
  go_wp2_with ((with_reducible apply W_slice3 (n := 96)); rfl; rfl; rfl; rfl; rfl; exact Salg.underlying40; exact ⟨1, size5⟩; omega; simp only [Act.put, List.setIfInBounds_toArray, List.set_cons_zero, List.set_cons_succ])
  rw [HK.out, HD.out, HS.out, HN.out]
  refine (HP.out _).mono ?_
  rintro e w2 ⟨pv, rfl, xP, K1⟩
  have HPV := hid xP
  replace M := M.call K1
  clear K1 xP HP
  obtain ⟨pg, pc, rfl⟩ := row_at8 HPV.out HPR.out
  go_wp2_with fail
  refine (echo_any _).mono ?_
  rintro e w3 ⟨ev, rfl, xE, K1⟩
  have HEV := hid xE
  replace HPV := hid (HPV.out.kept K1)
  replace M := M.call K1
  clear K1 xE
  obtain ⟨eg, ec, rfl⟩ := row_at8 (ds := [54, 95, 95, 55, 54, 95, 243]) HEV.out (by decide)
  go_wp2_with (first
    | ((with_reducible apply W_buildN (d := 39) (vs := #[Value.slice (some ⟨pg, 0, none⟩) pr.length pc, Value.slice (some ⟨eg, 0, none⟩) 7 ec]) (e := 40) M); kernel_rfl; clear M; intro bn wn hbn hbn2 KB M; replace HPV := hid (HPV.out.kept KB); replace HEV := hid (HEV.out.kept KB); clear KB hbn2; simp only [Act.put, List.setIfInBounds_toArray, List.set_cons_zero, List.set_cons_succ])
    | fail)
  refine (toA1_any _).mono ?_
  rintro e w5 ⟨rfl, K1⟩
  replace HPV := hid (HPV.out.kept K1)
  replace HEV := hid (HEV.out.kept K1)
  replace M := M.call K1
  clear K1
  go_wp2_with (first
    | ((with_reducible apply L_allocN (d := 15) M); exact zero49; clear M; intro t15 w6 ht15 ht15N KQ M; clear ht15N; replace HPV := hid (HPV.out.kept KQ); replace HEV := hid (HEV.out.kept KQ); clear KQ; simp only [Act.put, List.setIfInBounds_toArray, List.set_cons_zero, List.set_cons_succ])
    | ((with_reducible apply W_storeK (b := t15) (vs := txL.toArray)); rfl; rfl; exact M.r0; exact size49; rfl; exact oneL rfl; intro w7 KQ hr; replace HPV := hid (HPV.out.keptC KQ M.r0 (by decide)); replace HEV := hid (HEV.out.keptC KQ M.r0 (by decide)); replace M := Mem.callPut (L1 := []) M (Or.inr ht15) KQ hr; clear KQ hr; simp only [List.cons_append, List.nil_append] at M))
  refine (copyBytes_dat _ dd _ (HDV.out.kept M.kept) (by rw [HDD.out]; omega)).mono ?_
  rintro e w8 ⟨u, rfl, xU, K1⟩
  have HUV := hid xU
  replace HPV := hid (HPV.out.kept K1)
  replace HEV := hid (HEV.out.kept K1)
  replace M := M.call K1
  clear K1 xU
  obtain ⟨pd, cd, ePD⟩ : ∃ pd cd, u = Value.slice pd 96 cd := by
    obtain ⟨q, c, e, _⟩ := HUV.out
    exact ⟨q, c, by rw [e, HDD.out]⟩
  subst ePD
  go_wp2_with ((with_reducible apply W_stC (b := t15) (o := 107) (v := Value.slice pd 96 cd)); rfl; rfl; rfl; exact M.r0; exact size40; (exact Nat.le_of_ble_eq_true rfl); intro w9 KQ hr; rw [tx_set] at hr; replace HPV := hid (HPV.out.keptC KQ M.r0 (by decide)); replace HEV := hid (HEV.out.keptC KQ M.r0 (by decide)); replace HUV := hid (HUV.out.keptC KQ M.r0 tx_no); replace M := Mem.callPut (L1 := []) M (Or.inr ht15) KQ hr; clear KQ hr; simp only [List.cons_append, List.nil_append] at M)
  refine S_region (by kernel_rfl) ?_
  replace HPV := hid (HPV.out.kept (Kept.refl [] _).drew)
  replace HEV := hid (HEV.out.kept (Kept.refl [] _).drew)
  replace HUV := hid (HUV.out.kept (Kept.refl [] _).drew)
  refine E_stage 0 13 [0, 1, 2, 3, 4, 5, 6, 7, 9, 8, 10, 11, 12] (by kernel_rfl) M.drew ?_
  clear M
  simp only [List.filterMap_cons, List.filterMap_nil, List.getElem?_cons_zero, List.getElem?_cons_succ]
  ((with_reducible apply E_run); rfl; rfl; (intro w M; go_simp; (try go_ints); (try simp only [↓IntWalk.iteOmega]); (try with_reducible rfl)); simp only [Act.put, List.setIfInBounds_toArray, List.set_cons_zero, List.set_cons_succ])
  ((with_reducible apply E_run); rfl; rfl; (intro w M; go_simp; (try go_ints); (try simp only [↓IntWalk.iteOmega]); (try with_reducible rfl)); simp only [Act.put, List.setIfInBounds_toArray, List.set_cons_zero, List.set_cons_succ])
  ((with_reducible apply E_run); rfl; rfl; (intro w M; go_simp; (try go_ints); (try simp only [↓IntWalk.iteOmega]); (try with_reducible rfl)); simp only [Act.put, List.setIfInBounds_toArray, List.set_cons_zero, List.set_cons_succ])
  ((with_reducible apply E_run); rfl; rfl; (intro w M; go_simp; (try go_ints); (try simp only [↓IntWalk.iteOmega]); (try with_reducible rfl)); simp only [Act.put, List.setIfInBounds_toArray, List.set_cons_zero, List.set_cons_succ])
  ((with_reducible apply E_run); rfl; rfl; (intro w M; go_simp; (try go_ints); (try simp only [↓IntWalk.iteOmega]); (try with_reducible rfl)); simp only [Act.put, List.setIfInBounds_toArray, List.set_cons_zero, List.set_cons_succ])
  ((with_reducible apply E_run); rfl; rfl; (intro w M; go_simp; (try go_ints); (try simp only [↓IntWalk.iteOmega]); (try with_reducible rfl)); simp only [Act.put, List.setIfInBounds_toArray, List.set_cons_zero, List.set_cons_succ])
  ((with_reducible apply E_run); rfl; rfl; (intro w M; go_simp; (try go_ints); (try simp only [↓IntWalk.iteOmega]); (try with_reducible rfl)); simp only [Act.put, List.setIfInBounds_toArray, List.set_cons_zero, List.set_cons_succ])
  ((with_reducible apply E_run); rfl; rfl; (intro w M; go_simp; (try go_ints); (try simp only [↓IntWalk.iteOmega]); (try with_reducible rfl)); simp only [Act.put, List.setIfInBounds_toArray, List.set_cons_zero, List.set_cons_succ])
  ((with_reducible apply E_run); rfl; rfl; (intro w M; exact run_loadAll M.r0 rfl Salg.underlying49 rfl (sizeP _)); simp only [Act.put, List.setIfInBounds_toArray, List.set_cons_zero, List.set_cons_succ])
  refine E_call rfl Salg.func14 (by kernel_rfl) (by kernel_rfl) (args := [.slice (some ⟨bn, 0, none⟩) 2 2]) rfl ?_
  intro w10 K1 M
  replace HPV := hid (HPV.out.kept K1)
  replace HEV := hid (HEV.out.kept K1)
  replace HUV := hid (HUV.out.kept K1)
  clear K1
  refine (stage_gen bn _ _ _ _ _ _ pr echoL w10 M.r1 (fun w' K' => copyBytes_row _ pr w' (HPV.out.kept K') HPR.out (Nat.le_trans HPR2.out (by decide)) HPRS.out) (fun w' K' => copyBytes_row _ echoL w' (HEV.out.kept K') (by decide) (by decide) (fun x hx => by simp [echoL] at hx; omega)) rfl (by decide) HPR2.out (by decide)).mono ?_
  rintro e w11 ⟨sv, u1, u2, rfl, xO, x1, x2, K1⟩
  have HOA := hid xO
  have HU1 := hid x1
  have HU2 := hid x2
  replace HPV := hid (HPV.out.kept K1)
  replace HUV := hid (HUV.out.kept K1)
  replace M := M.call K1
  clear K1 xO x1 x2 HEV
  refine ⟨_, rfl, trivial, M, ?_⟩
  simp only [Act.put, List.setIfInBounds_toArray, List.set_cons_zero, List.set_cons_succ]
  refine E_call rfl Salg.func25 (by kernel_rfl) (by kernel_rfl) (args := [sv, .agg (txP (Value.slice pd 96 cd)).toArray]) rfl ?_
  intro w12 K1 M
  refine (HA.out sv u1 u2 pd cd w12 (HOA.out.kept K1) (HU1.out.kept K1) (HU2.out.kept K1) (HUV.out.kept K1)).mono ?_
  replace HPV := hid (HPV.out.kept K1)
  clear K1 HOA HU1 HU2 HUV
  rintro e w13 ⟨rc, rfl, xR, K1⟩
  have HRC := hid xR
  replace HPV := hid (HPV.out.kept K1)
  replace M := M.call K1
  clear K1 xR
  refine ⟨_, rfl, trivial, M, ?_⟩
  simp only [Act.put, List.setIfInBounds_toArray, List.set_cons_zero, List.set_cons_succ]
  refine E_call rfl Salg.func24 (by kernel_rfl) (by kernel_rfl) (args := [n8 K, n8 D, n8 s, n8 N, .bool far, Value.slice p 96 96, Value.slice (some ⟨pg, 0, none⟩) pr.length pc, rc]) rfl ?_
  intro w14 K1 M
  refine (HH.out w14 _ rc (HDV.out.kept M.kept) (HPV.out.kept K1) (HKE.out _ _ _ HRC.out K1)).mono ?_
  clear K1 HPV HRC
  rintro e w15 ⟨rfl, K1⟩
  replace M := M.call K1
  clear K1
  refine ⟨_, rfl, trivial, M, ?_⟩
  simp only [Act.put, List.setIfInBounds_toArray, List.set_cons_zero, List.set_cons_succ]
  ((with_reducible apply E_run); rfl; rfl; (intro w M; go_simp; (try go_ints); (try simp only [↓IntWalk.iteOmega]); (try with_reducible rfl)); simp only [Act.put, List.setIfInBounds_toArray, List.set_cons_zero, List.set_cons_succ])
  refine E_nil ?_
  intro w18 K M
  clear K
  refine S_done ?_
  go_wp2_with fail
  go_ret
  exact ⟨rfl, M.kept⟩

set_option maxHeartbeats 4000000 in
set_option maxRecDepth 100000 in
theorem copies_as_3 (kind dst src n : Nat) (far : Bool) (D s N : Nat) (p : Option Addr) (len cap : Nat) (dd pr : List Nat) (RcOK : World → Value → Prop) (w : World) (hkept : ∀ w w' v, RcOK w v → Kept [] w w' → RcOK w' v) (hK : kind % 7 = 3) (hD : dst % 64 = D) (hs : src % 64 = s) (hN : n % 64 = N) (hlen : len ≤ 96) (hdd : dd.length = len) (hdv : DatV w (Value.slice p len cap) dd) (hpr : 0 < pr.length) (hpr2 : pr.length ≤ 256) (hprs : Small pr)
    (hP : ∀ w, Calls Salg.prog 21 #[n8 3, n8 D, n8 s, n8 N, .bool far, .int .i64 ((len : Nat) : Int)] w fun e w' => ∃ v, e = .returned v ∧ RowV w' 5 v (pr.map n8) ∧ Kept [] w w')
    (hA : ∀ (v u1 u2 : Value) (pd : Option Addr) (cd : Nat) (w : World), OasV w v [oaN 1 u1, oaN 2 u2, oaB] → NatV w u1 pr → NatV w u2 dd → NatV w (Value.slice pd len cd) dd → Calls Salg.prog 25 #[v, .agg (txP (Value.slice pd len cd)).toArray] w fun e w' => ∃ rc, e = .returned rc ∧ RcOK w' rc ∧ Kept [] w w')
    (hH : ∀ (w : World) (pv rc : Value), DatV w (Value.slice p len cap) dd → RowV w 5 pv (pr.map n8) → RcOK w rc → Calls Salg.prog 24 #[n8 3, n8 D, n8 s, n8 N, .bool far, Value.slice p len cap, pv, rc] w fun e w' => e = .returned (.bool true) ∧ Kept [] w w') :
    Calls Salg.prog 5 #[.int .u8 (kind : Int), .int .u8 (dst : Int), .int .u8 (src : Int), .int .u8 (n : Int), .bool far, .slice p len cap] w fun e w' => e = .returned (.bool true) ∧ Kept [] w w' := by
  have M := Mem.start w []
  have HK : Hid ((kind : Int) % 7 = ((3 : Nat) : Int)) := by show _ = _; omega
  have HD : Hid ((dst : Int) % 64 = (D : Int)) := by show _ = _; omega
  have HS : Hid ((src : Int) % 64 = (s : Int)) := by show _ = _; omega
  have HN : Hid ((n : Int) % 64 = (N : Int)) := by show _ = _; omega
  have HP := hid hP
  have HA := hid hA
  have HH := hid hH
  have HKE := hid hkept
  have HDV := hid hdv
  have HPR := hid hpr
  have HPRS := hid hprs
  have HPR2 := hid hpr2
  have HDD := hid hdd
  clear hP hA hH hkept hdv hpr hprs hpr2 hdd hK hD hs hN 
  go_enter Salg.func5, Salg.ntmps5
  go_wp2_with fail
  rw [HK.out, HD.out, HS.out, HN.out]
  refine (HP.out _).mono ?_
  rintro e w2 ⟨pv, rfl, xP, K1⟩
  have HPV := hid xP
  replace M := M.call K1
  clear K1 xP HP
  obtain ⟨pg, pc, rfl⟩ := row_at8 HPV.out HPR.out
  go_wp2_with fail
  refine (echo_any _).mono ?_
  rintro e w3 ⟨ev, rfl, xE, K1⟩
  have HEV := hid xE
  replace HPV := hid (HPV.out.kept K1)
  replace M := M.call K1
  clear K1 xE
  obtain ⟨eg, ec, rfl⟩ := row_at8 (ds := [54, 95, 95, 55, 54, 95, 243]) HEV.out (by decide)
  go_wp2_with (first
    | ((with_reducible apply W_buildN (d := 39) (vs := #[Value.slice (some ⟨pg, 0, none⟩) pr.length pc, Value.slice (some ⟨eg, 0, none⟩) 7 ec]) (e := 40) M); kernel_rfl; clear M; intro bn wn hbn hbn2 KB M; replace HPV := hid (HPV.out.kept KB); replace HEV := hid (HEV.out.kept KB); clear KB hbn2; simp only [Act.put, List.setIfInBounds_toArray, List.set_cons_zero, List.set_cons_succ])
    | ((with_reducible apply W_stC (b := bn) (o := 1) (v := Value.slice p len cap)); rfl; rfl; rfl; exact M.r0; exact size40; (exact Nat.le_of_ble_eq_true rfl); intro w4 K1 hr; replace HPV := hid (HPV.out.keptC K1 M.r0 (by decide)); replace M := Mem.callPut (L1 := []) M (Or.inr hbn) K1 hr; clear K1 hr HEV; simp only [List.cons_append, List.nil_append, List.setIfInBounds_toArray, List.set_cons_zero, List.set_cons_succ] at M)
    | fail)
  refine (toA1_any _).mono ?_
  rintro e w5 ⟨rfl, K1⟩
  replace HPV := hid (HPV.out.kept K1)
  replace M := M.call K1
  clear K1
  go_wp2_with (first
    | ((with_reducible apply L_allocN (d := 15) M); exact zero49; clear M; intro t15 w6 ht15 ht15N KQ M; clear ht15N; replace HPV := hid (HPV.out.kept KQ); clear KQ; simp only [Act.put, List.setIfInBounds_toArray, List.set_cons_zero, List.set_cons_succ])
    | ((with_reducible apply W_storeK (b := t15) (vs := txL.toArray)); rfl; rfl; exact M.r0; exact size49; rfl; exact oneL rfl; intro w7 KQ hr; replace HPV := hid (HPV.out.keptC KQ M.r0 (by decide)); replace M := Mem.callPut (L1 := []) M (Or.inr ht15) KQ hr; clear KQ hr; simp only [List.cons_append, List.nil_append] at M))
  refine (copyBytes_dat _ dd _ (HDV.out.kept M.kept) (by rw [HDD.out]; omega)).mono ?_
  rintro e w8 ⟨u, rfl, xU, K1⟩
  have HUV := hid xU
  replace HPV := hid (HPV.out.kept K1)
  replace M := M.call K1
  clear K1 xU
  obtain ⟨pd, cd, ePD⟩ : ∃ pd cd, u = Value.slice pd len cd := by
    obtain ⟨q, c, e, _⟩ := HUV.out
    exact ⟨q, c, by rw [e, HDD.out]⟩
  subst ePD
  go_wp2_with ((with_reducible apply W_stC (b := t15) (o := 107) (v := Value.slice pd len cd)); rfl; rfl; rfl; exact M.r0; exact size40; (exact Nat.le_of_ble_eq_true rfl); intro w9 KQ hr; rw [tx_set] at hr; replace HPV := hid (HPV.out.keptC KQ M.r0 (by decide)); replace HUV := hid (HUV.out.keptC KQ M.r0 tx_no); replace M := Mem.callPut (L1 := []) M (Or.inr ht15) KQ hr; clear KQ hr; simp only [List.cons_append, List.nil_append] at M)
  refine S_region (by kernel_rfl) ?_
  replace HPV := hid (HPV.out.kept (Kept.refl [] _).drew)
  replace HUV := hid (HUV.out.kept (Kept.refl [] _).drew)
  refine E_stage 0 13 [0, 1, 2, 3, 4, 5, 6, 7, 9, 8, 10, 11, 12] (by kernel_rfl) M.drew ?_
  clear M
  simp only [List.filterMap_cons, List.filterMap_nil, List.getElem?_cons_zero, List.getElem?_cons_succ]
  ((with_reducible apply E_run); rfl; rfl; (intro w M; go_simp; (try go_ints); (try simp only [↓IntWalk.iteOmega]); (try with_reducible rfl)); simp only [Act.put, List.setIfInBounds_toArray, List.set_cons_zero, List.set_cons_succ])
  ((with_reducible apply E_run); rfl; rfl; (intro w M; go_simp; (try go_ints); (try simp only [↓IntWalk.iteOmega]); (try with_reducible rfl)); simp only [Act.put, List.setIfInBounds_toArray, List.set_cons_zero, List.set_cons_succ])
  ((with_reducible apply E_run); rfl; rfl; (intro w M; go_simp; (try go_ints); (try simp only [↓IntWalk.iteOmega]); (try with_reducible rfl)); simp only [Act.put, List.setIfInBounds_toArray, List.set_cons_zero, List.set_cons_succ])
  ((with_reducible apply E_run); rfl; rfl; (intro w M; go_simp; (try go_ints); (try simp only [↓IntWalk.iteOmega]); (try with_reducible rfl)); simp only [Act.put, List.setIfInBounds_toArray, List.set_cons_zero, List.set_cons_succ])
  ((with_reducible apply E_run); rfl; rfl; (intro w M; go_simp; (try go_ints); (try simp only [↓IntWalk.iteOmega]); (try with_reducible rfl)); simp only [Act.put, List.setIfInBounds_toArray, List.set_cons_zero, List.set_cons_succ])
  ((with_reducible apply E_run); rfl; rfl; (intro w M; go_simp; (try go_ints); (try simp only [↓IntWalk.iteOmega]); (try with_reducible rfl)); simp only [Act.put, List.setIfInBounds_toArray, List.set_cons_zero, List.set_cons_succ])
  ((with_reducible apply E_run); rfl; rfl; (intro w M; go_simp; (try go_ints); (try simp only [↓IntWalk.iteOmega]); (try with_reducible rfl)); simp only [Act.put, List.setIfInBounds_toArray, List.set_cons_zero, List.set_cons_succ])
  ((with_reducible apply E_run); rfl; rfl; (intro w M; go_simp; (try go_ints); (try simp only [↓IntWalk.iteOmega]); (try with_reducible rfl)); simp only [Act.put, List.setIfInBounds_toArray, List.set_cons_zero, List.set_cons_succ])
  ((with_reducible apply E_run); rfl; rfl; (intro w M; exact run_loadAll M.r0 rfl Salg.underlying49 rfl (sizeP _)); simp only [Act.put, List.setIfInBounds_toArray, List.set_cons_zero, List.set_cons_succ])
  refine E_call rfl Salg.func14 (by kernel_rfl) (by kernel_rfl) (args := [.slice (some ⟨bn, 0, none⟩) 2 2]) rfl ?_
  intro w10 K1 M
  replace HPV := hid (HPV.out.kept K1)
  replace HUV := hid (HUV.out.kept K1)
  clear K1
  refine (stage_gen bn _ _ _ _ _ _ pr dd w10 M.r1 (fun w' K' => copyBytes_row _ pr w' (HPV.out.kept K') HPR.out (Nat.le_trans HPR2.out (by decide)) HPRS.out) (fun w' K' => copyBytes_dat _ dd w' (HDV.out.kept (M.kept.trans K')) (by rw [HDD.out]; omega)) rfl HDD.out HPR2.out (by omega)).mono ?_
  rintro e w11 ⟨sv, u1, u2, rfl, xO, x1, x2, K1⟩
  have HOA := hid xO
  have HU1 := hid x1
  have HU2 := hid x2
  replace HPV := hid (HPV.out.kept K1)
  replace HUV := hid (HUV.out.kept K1)
  replace M := M.call K1
  clear K1 xO x1 x2 
  refine ⟨_, rfl, trivial, M, ?_⟩
  simp only [Act.put, List.setIfInBounds_toArray, List.set_cons_zero, List.set_cons_succ]
  refine E_call rfl Salg.func25 (by kernel_rfl) (by kernel_rfl) (args := [sv, .agg (txP (Value.slice pd len cd)).toArray]) rfl ?_
  intro w12 K1 M
  refine (HA.out sv u1 u2 pd cd w12 (HOA.out.kept K1) (HU1.out.kept K1) (HU2.out.kept K1) (HUV.out.kept K1)).mono ?_
  replace HPV := hid (HPV.out.kept K1)
  clear K1 HOA HU1 HU2 HUV
  rintro e w13 ⟨rc, rfl, xR, K1⟩
  have HRC := hid xR
  replace HPV := hid (HPV.out.kept K1)
  replace M := M.call K1
  clear K1 xR
  refine ⟨_, rfl, trivial, M, ?_⟩
  simp only [Act.put, List.setIfInBounds_toArray, List.set_cons_zero, List.set_cons_succ]
  refine E_call rfl Salg.func24 (by kernel_rfl) (by kernel_rfl) (args := [n8 3, n8 D, n8 s, n8 N, .bool far, Value.slice p len cap, Value.slice (some ⟨pg, 0, none⟩) pr.length pc, rc]) rfl ?_
  intro w14 K1 M
  refine (HH.out w14 _ rc (HDV.out.kept M.kept) (HPV.out.kept K1) (HKE.out _ _ _ HRC.out K1)).mono ?_
  clear K1 HPV HRC
  rintro e w15 ⟨rfl, K1⟩
  replace M := M.call K1
  clear K1
  refine ⟨_, rfl, trivial, M, ?_⟩
  simp only [Act.put, List.setIfInBounds_toArray, List.set_cons_zero, List.set_cons_succ]
  ((with_reducible apply E_run); rfl; rfl; (intro w M; go_simp; (try go_ints); (try simp only [↓IntWalk.iteOmega]); (try with_reducible rfl)); simp only [Act.put, List.setIfInBounds_toArray, List.set_cons_zero, List.set_cons_succ])
  refine E_nil ?_
  intro w18 K M
  clear K
  refine S_done ?_
  go_wp2_with fail
  go_ret
  exact ⟨rfl, M.kept⟩

set_option maxHeartbeats 4000000 in
set_option maxRecDepth 100000 in
theorem copies_cut_3 (kind dst src n : Nat) (far : Bool) (D s N : Nat) (p : Option Addr) (len cap : Nat) (dd pr : List Nat) (RcOK : World → Value → Prop) (w : World) (hkept : ∀ w w' v, RcOK w v → Kept [] w w' → RcOK w' v) (hK : kind % 7 = 3) (hD : dst % 64 = D) (hs : src % 64 = s) (hN : n % 64 = N) (hlen : 96 < len) (hcap : 96 ≤ cap) (hdd : dd.length = 96) (hdv : DatV w (Value.slice p 96 96) dd) (hpr : 0 < pr.length) (hpr2 : pr.length ≤ 256) (hprs : Small pr)
    (hP : ∀ w, Calls Salg.prog 21 #[n8 3, n8 D, n8 s, n8 N, .bool far, .int .i64 ((96 : Nat) : Int)] w fun e w' => ∃ v, e = .returned v ∧ RowV w' 5 v (pr.map n8) ∧ Kept [] w w')
    (hA : ∀ (v u1 u2 : Value) (pd : Option Addr) (cd : Nat) (w : World), OasV w v [oaN 1 u1, oaN 2 u2, oaB] → NatV w u1 pr → NatV w u2 dd → NatV w (Value.slice pd 96 cd) dd → Calls Salg.prog 25 #[v, .agg (txP (Value.slice pd 96 cd)).toArray] w fun e w' => ∃ rc, e = .returned rc ∧ RcOK w' rc ∧ Kept [] w w')
    (hH : ∀ (w : World) (pv rc : Value), DatV w (Value.slice p 96 96) dd → RowV w 5 pv (pr.map n8) → RcOK w rc → Calls Salg.prog 24 #[n8 3, n8 D, n8 s, n8 N, .bool far, Value.slice p 96 96, pv, rc] w fun e w' => e = .returned (.bool true) ∧ Kept [] w w') :
    Calls Salg.prog 5 #[.int .u8 (kind : Int), .int .u8 (dst : Int), .int .u8 (src : Int), .int .u8 (n : Int), .bool far, .slice p len cap] w fun e w' => e = .returned (.bool true) ∧ Kept [] w w' := by
  have M := Mem.start w []
  have HK : Hid ((kind : Int) % 7 = ((3 : Nat) : Int)) := by show _ = _; omega
  have HD : Hid ((dst : Int) % 64 = (D : Int)) := by show _ = _; omega
  have HS : Hid ((src : Int) % 64 = (s : Int)) := by show _ = _; omega
  have HN : Hid ((n : Int) % 64 = (N : Int)) := by show _ = _; omega
  have HP := hid hP
  have HA := hid hA
  have HH := hid hH
  have HKE := hid hkept
  have HDV := hid hdv
  have HPR := hid hpr
  have HPRS := hid hprs
  have HPR2 := hid hpr2
  have HDD := hid hdd
  clear hP hA hH hkept hdv hpr hprs hpr2 hdd hK hD hs hN 
  go_enter Salg.func5, Salg.ntmps5
  go_wp2_with ((with_reducible apply W_slice3 (n := 96)); rfl; rfl; rfl; rfl; rfl; exact Salg.underlying40; exact ⟨1, size5⟩; omega; simp only [Act.put, List.setIfInBounds_toArray, List.set_cons_zero, List.set_cons_succ])
  rw [HK.out, HD.out, HS.out, HN.out]
  refine (HP.out _).mono ?_
  rintro e w2 ⟨pv, rfl, xP, K1⟩
  have HPV := hid xP
  replace M := M.call K1
  clear K1 xP HP
  obtain ⟨pg, pc, rfl⟩ := row_at8 HPV.out HPR.out
  go_wp2_with fail
  refine (echo_any _).mono ?_
  rintro e w3 ⟨ev, rfl, xE, K1⟩
  have HEV := hid xE
  replace HPV := hid (HPV.out.kept K1)
  replace M := M.call K1
  clear K1 xE
  obtain ⟨eg, ec, rfl⟩ := row_at8 (ds := [54, 95, 95, 55, 54, 95, 243]) HEV.out (by decide)
  go_wp2_with (first
    | ((with_reducible apply W_buildN (d := 39) (vs := #[Value.slice (some ⟨pg, 0, none⟩) pr.length pc, Value.slice (some ⟨eg, 0, none⟩) 7 ec]) (e := 40) M); kernel_rfl; clear M; intro bn wn hbn hbn2 KB M; replace HPV := hid (HPV.out.kept KB); replace HEV := hid (HEV.out.kept KB); clear KB hbn2; simp only [Act.put, List.setIfInBounds_toArray, List.set_cons_zero, List.set_cons_succ])
    | ((with_reducible apply W_stC (b := bn) (o := 1) (v := Value.slice p 96 96)); rfl; rfl; rfl; exact M.r0; exact size40; (exact Nat.le_of_ble_eq_true rfl); intro w4 K1 hr; replace HPV := hid (HPV.out.keptC K1 M.r0 (by decide)); replace M := Mem.callPut (L1 := []) M (Or.inr hbn) K1 hr; clear K1 hr HEV; simp only [List.cons_append, List.nil_append, List.setIfInBounds_toArray, List.set_cons_zero, List.set_cons_succ] at M)
    | fail)
  refine (toA1_any _).mono ?_
  rintro e w5 ⟨rfl, K1⟩
  replace HPV := hid (HPV.out.kept K1)
  replace M := M.call K1
  clear K1
  go_wp2_with (first
    | ((with_reducible apply L_allocN (d := 15) M); exact zero49; clear M; intro t15 w6 ht15 ht15N KQ M; clear ht15N; replace HPV := hid (HPV.out.kept KQ); clear KQ; simp only [Act.put, List.setIfInBounds_toArray, List.set_cons_zero, List.set_cons_succ])
    | ((with_reducible apply W_storeK (b := t15) (vs := txL.toArray)); rfl; rfl; exact M.r0; exact size49; rfl; exact oneL rfl; intro w7 KQ hr; replace HPV := hid (HPV.out.keptC KQ M.r0 (by decide)); replace M := Mem.callPut (L1 := []) M (Or.inr ht15) KQ hr; clear KQ hr; simp only [List.cons_append, List.nil_append] at M))
  refine (copyBytes_dat _ dd _ (HDV.out.kept M.kept) (by rw [HDD.out]; omega)).mono ?_
  rintro e w8 ⟨u, rfl, xU, K1⟩
  have HUV := hid xU
  replace HPV := hid (HPV.out.kept K1)
  replace M := M.call K1
  clear K1 xU
  obtain ⟨pd, cd, ePD⟩ : ∃ pd cd, u = Value.slice pd 96 cd := by
    obtain ⟨q, c, e, _⟩ := HUV.out
    exact ⟨q, c, by rw [e, HDD.out]⟩
  subst ePD
  go_wp2_with ((with_reducible apply W_stC (b := t15) (o := 107) (v := Value.slice pd 96 cd)); rfl; rfl; rfl; exact M.r0; exact size40; (exact Nat.le_of_ble_eq_true rfl); intro w9 KQ hr; rw [tx_set] at hr; replace HPV := hid (HPV.out.keptC KQ M.r0 (by decide)); replace HUV := hid (HUV.out.keptC KQ M.r0 tx_no); replace M := Mem.callPut (L1 := []) M (Or.inr ht15) KQ hr; clear KQ hr; simp only [List.cons_append, List.nil_append] at M)
  refine S_region (by kernel_rfl) ?_
  replace HPV := hid (HPV.out.kept (Kept.refl [] _).drew)
  replace HUV := hid (HUV.out.kept (Kept.refl [] _).drew)
  refine E_stage 0 13 [0, 1, 2, 3, 4, 5, 6, 7, 9, 8, 10, 11, 12] (by kernel_rfl) M.drew ?_
  clear M
  simp only [List.filterMap_cons, List.filterMap_nil, List.getElem?_cons_zero, List.getElem?_cons_succ]
  ((with_reducible apply E_run); rfl; rfl; (intro w M; go_simp; (try go_ints); (try simp only [↓IntWalk.iteOmega]); (try with_reducible rfl)); simp only [Act.put, List.setIfInBounds_toArray, List.set_cons_zero, List.set_cons_succ])
  ((with_reducible apply E_run); rfl; rfl; (intro w M; go_simp; (try go_ints); (try simp only [↓IntWalk.iteOmega]); (try with_reducible rfl)); simp only [Act.put, List.setIfInBounds_toArray, List.set_cons_zero, List.set_cons_succ])
  ((with_reducible apply E_run); rfl; rfl; (intro w M; go_simp; (try go_ints); (try simp only [↓IntWalk.iteOmega]); (try with_reducible rfl)); simp only [Act.put, List.setIfInBounds_toArray, List.set_cons_zero, List.set_cons_succ])
  ((with_reducible apply E_run); rfl; rfl; (intro w M; go_simp; (try go_ints); (try simp only [↓IntWalk.iteOmega]); (try with_reducible rfl)); simp only [Act.put, List.setIfInBounds_toArray, List.set_cons_zero, List.set_cons_succ])
  ((with_reducible apply E_run); rfl; rfl; (intro w M; go_simp; (try go_ints); (try simp only [↓IntWalk.iteOmega]); (try with_reducible rfl)); simp only [Act.put, List.setIfInBounds_toArray, List.set_cons_zero, List.set_cons_succ])
  ((with_reducible apply E_run); rfl; rfl; (intro w M; go_simp; (try go_ints); (try simp only [↓IntWalk.iteOmega]); (try with_reducible rfl)); simp only [Act.put, List.setIfInBounds_toArray, List.set_cons_zero, List.set_cons_succ])
  ((with_reducible apply E_run); rfl; rfl; (intro w M; go_simp; (try go_ints); (try simp only [↓IntWalk.iteOmega]); (try with_reducible rfl)); simp only [Act.put, List.setIfInBounds_toArray, List.set_cons_zero, List.set_cons_succ])
  ((with_reducible apply E_run); rfl; rfl; (intro w M; go_simp; (try go_ints); (try simp only [↓IntWalk.iteOmega]); (try with_reducible rfl)); simp only [Act.put, List.setIfInBounds_toArray, List.set_cons_zero, List.set_cons_succ])
  ((with_reducible apply E_run); rfl; rfl; (intro w M; exact run_loadAll M.r0 rfl Salg.underlying49 rfl (sizeP _)); simp only [Act.put, List.setIfInBounds_toArray, List.set_cons_zero, List.set_cons_succ])
  refine E_call rfl Salg.func14 (by kernel_rfl) (by kernel_rfl) (args := [.slice (some ⟨bn, 0, none⟩) 2 2]) rfl ?_
  intro w10 K1 M
  replace HPV := hid (HPV.out.kept K1)
  replace HUV := hid (HUV.out.kept K1)
  clear K1
  refine (stage_gen bn _ _ _ _ _ _ pr dd w10 M.r1 (fun w' K' => copyBytes_row _ pr w' (HPV.out.kept K') HPR.out (Nat.le_trans HPR2.out (by decide)) HPRS.out) (fun w' K' => copyBytes_dat _ dd w' (HDV.out.kept (M.kept.trans K')) (by rw [HDD.out]; omega)) rfl HDD.out HPR2.out (by omega)).mono ?_
  rintro e w11 ⟨sv, u1, u2, rfl, xO, x1, x2, K1⟩
  have HOA := hid xO
  have HU1 := hid x1
  have HU2 := hid x2
  replace HPV := hid (HPV.out.kept K1)
  replace HUV := hid (HUV.out.kept K1)
  replace M := M.call K1
  clear K1 xO x1 x2 
  refine ⟨_, rfl, trivial, M, ?_⟩
  simp only [Act.put, List.setIfInBounds_toArray, List.set_cons_zero, List.set_cons_succ]
  refine E_call rfl Salg.func25 (by kernel_rfl) (by kernel_rfl) (args := [sv, .agg (txP (Value.slice pd 96 cd)).toArray]) rfl ?_
  intro w12 K1 M
  refine (HA.out sv u1 u2 pd cd w12 (HOA.out.kept K1) (HU1.out.kept K1) (HU2.out.kept K1) (HUV.out.kept K1)).mono ?_
  replace HPV := hid (HPV.out.kept K1)
  clear K1 HOA HU1 HU2 HUV
  rintro e w13 ⟨rc, rfl, xR, K1⟩
  have HRC := hid xR
  replace HPV := hid (HPV.out.kept K1)
  replace M := M.call K1
  clear K1 xR
  refine ⟨_, rfl, trivial, M, ?_⟩
  simp only [Act.put, List.setIfInBounds_toArray, List.set_cons_zero, List.set_cons_succ]
  refine E_call rfl Salg.func24 (by kernel_rfl) (by kernel_rfl) (args := [n8 3, n8 D, n8 s, n8 N, .bool far, Value.slice p 96 96, Value.slice (some ⟨pg, 0, none⟩) pr.length pc, rc]) rfl ?_
  intro w14 K1 M
  refine (HH.out w14 _ rc (HDV.out.kept M.kept) (HPV.out.kept K1) (HKE.out _ _ _ HRC.out K1)).mono ?_
  clear K1 HPV HRC
  rintro e w15 ⟨rfl, K1⟩
  replace M := M.call K1
  clear K1
  refine ⟨_, rfl, trivial, M, ?_⟩
  simp only [Act.put, List.setIfInBounds_toArray, List.set_cons_zero, List.set_cons_succ]
  ((with_reducible apply E_run); rfl; rfl; (intro w M; go_simp; (try go_ints); (try simp only [↓IntWalk.iteOmega]); (try with_reducible rfl)); simp only [Act.put, List.setIfInBounds_toArray, List.set_cons_zero, List.set_cons_succ])
  refine E_nil ?_
  intro w18 K M
  clear K
  refine S_done ?_
  go_wp2_with fail
  go_ret
  exact ⟨rfl, M.kept⟩
end Go.Proofs.YgcsalGreat

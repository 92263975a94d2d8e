/-
  Begin at a call with data: the state of the run that it leaves.
-/
import Derived.Test.YgcsalGreatCp33
set_option linter.unusedSimpArgs false
set_option linter.unusedVariables false
namespace Go.Proofs.YgcsalGreat
open Go.RowKit Go.Own
theorem begin_S (c n cd : Nat) (pd : Option Addr) (dd : List Nat) (va tv nv bv cu nvb bvb cub nv2 bv2 : Value) (ds dsb : List Nat) (w : World) (hc : w.heap[c]? = some (.cells (ch0 va tv) 119 (0, 0))) (hv : AcsV w va (l3 nv bv cu nilS nvb bvb cub nv2 bv2)) (hnv : NumV w nv 1) (hbv : NumV w bv 0) (hcu : NatV w cu ds) (hnb : NumV w nvb 1) (hbb : NumV w bvb 0) (hcb : NatV w cub dsb) (hdv : NatV w (Value.slice pd n cd) dd) (hdl : dd.length = n) (hn96 : n ≤ 96) (hn2 : NumV w nv2 0) (hb2 : NumV w bv2 340282366920938463463374607431768211456) (htv : NumV w tv 340282366920938463463374607431768211456) :
    Calls Salg.prog 16 #[.pointer (some ⟨c, 0, none⟩), .agg (txP (Value.slice pd n cd)).toArray] w fun e w' => e = .returned (.int .u8 0) ∧ ∃ (fb cap : Nat) (E : CEnv) (cur : Array Value) (cv iu vv g0 a0 a1 a2 a3 : Value), BegS w w' c fb cap E cur dd ds dsb cv iu vv g0 a0 a1 a2 a3 ∧ StG 170000 200000 w' c fb E 0 fb 0 1 cap cur 0 [] [] 0 nilS [] la5 w' := by
  refine (begin_D c n cd pd dd va tv nv bv cu nvb bvb cub nv2 bv2 ds dsb w hc hv hnv hbv hcu hnb hbb hcb hdv hdl (by omega) hn2 hb2).mono ?_
  rintro e w' ⟨fb, cap, cur, vz, wz, nn, bb, lim, pr, gv, vv, cu2, iu, a0, a1, a2, a3, I, rfl, r1, r2, ⟨f1, f2, f3, f4, f5⟩, r4, r5, r6, r7, r8, r9, ra, rb, rc, rd, re, rf, rg, rh, K⟩
  have hnb0 : ∀ t l, Obj.cells (ch0 va tv) 119 (0, 0) ≠ R8 t l := not_bytes_at (i := 4) (p := none) (n := 0) (m := 0) (by kernel_rfl)
  have r1' : w'.heap[c]? = some (.cells (chM vz wz nilS nilS (.slice (some ⟨fb, 0, none⟩) 1 cap) nilS 1 0 lim gv nilS pr tv) 119 (0, 0)) := r1
  have ecell : frL gv vv cu2 iu (wrow4 a0 a1 a2 a3) = frO gv vv cu2 iu nilS nilS (wrow4 a0 a1 a2 a3) := by kernel_rfl
  have nbf : ∀ t l, Obj.cells cur 142 (0, 0) ≠ R8 t l := not_bytes_at (tc := 142) (i := 3) (p := none) (n := 0) (m := 0) (by rw [f1 3 (by decide)]; rfl)
  refine ⟨rfl, fb, cap, ⟨vz, lim, gv, pr, tv, nv, bv, cu, nvb, bvb, cub, nn, bb⟩, cur, cu2, iu, vv, gv, a0, a1, a2, a3, ⟨?_, ⟨r8, hnv.keptC K hc hnb0, hbv.keptC K hc hnb0, hcu.keptC K hc hnb0, hnb.keptC K hc hnb0, hbb.keptC K hc hnb0, hcb.keptC K hc hnb0, ra, rb, rc, rd, htv.keptC K hc hnb0, re.one⟩, rg, r5, fun k hk => by rw [← ecell]; exact f1 k hk, fun u hu => by rw [← ecell] at hu; exact f5 u hu, f2, f3, f4, r4, K, rh⟩, ?_⟩
  · intro x hx
    simp only [List.mem_cons, List.mem_singleton, List.not_mem_nil, or_false] at hx
    rcases hx with rfl | rfl
    · exact ⟨_, 119, r1', .inl rfl, chM_nb _ _ _ _ _ _ _ _ _ _ _ _ _⟩
    · exact ⟨_, 142, r2, .inr rfl, nbf⟩
  · refine ⟨200000 - I, by omega, by omega, Nat.le_refl _, [], nilS, Kept.refl _ _, .inl rfl, ⟨wz, r1', r9⟩, ⟨cur, nilS, gv, nilS, [], r2, rfl, fun _ _ _ _ _ => rfl, ?_, nil_numS _ _, ?_, re.off (by simp), ?_, .inl ⟨rfl, rfl⟩, ⟨rfl, fun k v n e => by simp at e⟩, ?_, fun j v n hj => by omega⟩, .inl ⟨rfl, rfl⟩, (by intro x hx; cases hx), rfl, by decide, natS_nil _ _, by simp⟩
    · exact f1 3 (by decide)
    · exact f1 4 (by decide)
    · exact f1 8 (by decide)
    · exact f1 9 (by decide)
end Go.Proofs.YgcsalGreat

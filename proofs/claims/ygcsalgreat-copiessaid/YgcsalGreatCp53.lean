/-
  law.Copies, all kinds.
-/
import Derived.Test.YgcsalGreatCp36
import Derived.Test.YgcsalGreatCp37
import Derived.Test.YgcsalGreatCp40
import Derived.Test.YgcsalGreatCp41
import Derived.Test.YgcsalGreatCp42
import Derived.Test.YgcsalGreatCp43
import Derived.Test.YgcsalGreatCp44
import Derived.Test.YgcsalGreatCp46
import Derived.Test.YgcsalGreatCp47
import Derived.Test.YgcsalGreatCp49
import Derived.Test.YgcsalGreatCp50
import Derived.Test.YgcsalGreatCp51
import Derived.Test.YgcsalGreatCp52
set_option linter.unusedSimpArgs false
set_option linter.unusedVariables false
set_option maxRecDepth 20000
namespace Go.Proofs.YgcsalGreat
open Go.RowKit Go.Own
/-- What the walk of Copies asks of one kind. -/
structure Job (K D s N : Nat) (far : Bool) (L : Nat) (dd ds2 : List Nat) : Prop where
  ex : ∃ (pr : List Nat) (RcOK : World → Value → Prop), (∀ w w' v, RcOK w v → Kept [] w w' → RcOK w' v) ∧ 0 < pr.length ∧ pr.length ≤ 256 ∧ Small pr ∧
    (∀ w, Calls Salg.prog 21 #[n8 K, n8 D, n8 s, n8 N, .bool far, .int .i64 (L : Int)] w fun e w' => ∃ v, e = .returned v ∧ RowV w' 5 v (pr.map n8) ∧ Kept [] w w') ∧
    (∀ (v u1 u2 : Value) (pd : Option Addr) (cd : Nat) (w : World), OasV w v [oaN 1 u1, oaN 2 u2, oaB] → NatV w u1 pr → NatV w u2 ds2 → NatV w (Value.slice pd L cd) dd → Calls Salg.prog 25 #[v, .agg (txP (Value.slice pd L cd)).toArray] w fun e w' => ∃ rc, e = .returned rc ∧ RcOK w' rc ∧ Kept [] w w') ∧
    (∀ (p : Option Addr) (C : Nat) (w : World) (pv rc : Value), DatV w (Value.slice p L C) dd → RowV w 5 pv (pr.map n8) → RcOK w rc → Calls Salg.prog 24 #[n8 K, n8 D, n8 s, n8 N, .bool far, Value.slice p L C, pv, rc] w fun e w' => e = .returned (.bool true) ∧ Kept [] w w')
theorem job_D {K D s N : Nat} {far : Bool} {L : Nat} {dd ds2 : List Nat} (n : Nat) (pr bs : List Nat) (hl : dd.length = L) (h96 : L ≤ 96) (h0 : 0 < pr.length) (h1 : pr.length ≤ 256) (hs : Small pr)
    (hP : ∀ w, Calls Salg.prog 21 #[n8 K, n8 D, n8 s, n8 N, .bool far, .int .i64 (L : Int)] w fun e w' => ∃ v, e = .returned v ∧ RowV w' 5 v (pr.map n8) ∧ Kept [] w w')
    (hR : RunsTo 0 n dd pr ds2 bs)
    (hH : ∀ (p : Option Addr) (C U : Nat) (w : World) (pv ou : Value), DatV w (Value.slice p L C) dd → RowV w 5 pv (pr.map n8) → NatV w ou bs → Calls Salg.prog 24 #[n8 K, n8 D, n8 s, n8 N, .bool far, Value.slice p L C, pv, .agg (rcL (n64 U) ou).toArray] w fun e w' => e = .returned (.bool true) ∧ Kept [] w w') : Job K D s N far L dd ds2 := by
  refine ⟨pr, fun w v => ∃ (U : Nat) (ou : Value), v = .agg (rcL (n64 U) ou).toArray ∧ NatV w ou bs, ?_, h0, h1, hs, hP, ?_, ?_⟩
  · rintro w w' v ⟨U, ou, h, h2⟩ K
    exact ⟨U, ou, h, h2.kept K⟩
  · intro v u1 u2 pd cd w h2 h3 h4 h5
    refine (applied_D n L cd pd dd pr ds2 bs v u1 u2 w hR h2 h3 h4 h5 hl h96).mono ?_
    rintro e w' ⟨ou, U, rfl, h6, K⟩
    exact ⟨_, rfl, ⟨U, ou, rfl, h6⟩, K⟩
  · rintro p C w pv rc h2 h3 ⟨U, ou, rfl, h4⟩
    exact hH p C U w pv ou h2 h3 h4
theorem job_F {K D s N : Nat} {far : Bool} {L : Nat} {dd ds2 : List Nat} (n : Nat) (pr bs : List Nat) (hl : dd.length = L) (h96 : L ≤ 96) (h0 : 0 < pr.length) (h1 : pr.length ≤ 256) (hs : Small pr)
    (hP : ∀ w, Calls Salg.prog 21 #[n8 K, n8 D, n8 s, n8 N, .bool far, .int .i64 (L : Int)] w fun e w' => ∃ v, e = .returned v ∧ RowV w' 5 v (pr.map n8) ∧ Kept [] w w')
    (hR : RunsTo 8 n dd pr ds2 bs)
    (hH : ∀ (p : Option Addr) (C U : Nat) (w : World) (pv ou : Value), DatV w (Value.slice p L C) dd → RowV w 5 pv (pr.map n8) → NatV w ou bs → Calls Salg.prog 24 #[n8 K, n8 D, n8 s, n8 N, .bool far, Value.slice p L C, pv, .agg (rcF (n64 U) ou).toArray] w fun e w' => e = .returned (.bool true) ∧ Kept [] w w') : Job K D s N far L dd ds2 := by
  refine ⟨pr, fun w v => ∃ (U : Nat) (ou : Value), v = .agg (rcF (n64 U) ou).toArray ∧ NatV w ou bs, ?_, h0, h1, hs, hP, ?_, ?_⟩
  · rintro w w' v ⟨U, ou, h, h2⟩ K
    exact ⟨U, ou, h, h2.kept K⟩
  · intro v u1 u2 pd cd w h2 h3 h4 h5
    refine (applied_F n L cd pd dd pr ds2 bs v u1 u2 w hR h2 h3 h4 h5 hl h96).mono ?_
    rintro e w' ⟨ou, U, rfl, h6, K⟩
    exact ⟨_, rfl, ⟨U, ou, rfl, h6⟩, K⟩
  · rintro p C w pv rc h2 h3 ⟨U, ou, rfl, h4⟩
    exact hH p C U w pv ou h2 h3 h4
theorem job0 {D s N : Nat} {dd : List Nat} (hD : D < 64) (hs : s < 64) (hN : N < 64) (h96 : dd.length ≤ 96) : Job 0 D s N false dd.length dd echoL := by
  have hsm : Small [96, s, 53, 95, 82, 96, 32, 95, 243] := by
    intro x hx
    simp only [preL, List.cons_append, List.nil_append, List.mem_cons, List.not_mem_nil, or_false] at hx
    omega
  refine job_D 7 [96, s, 53, 95, 82, 96, 32, 95, 243] (cutB dd s 32) rfl h96 (by simp [preL]) (by simp [preL]) hsm (fun w => copiesProgram_0 N s D dd.length w (by omega) (by omega) (by omega)) ?_ ?_
  · intro w0 wB c fb cap E cur cv iu vv g0 a0 a1 a2 a3 B h
    exact run_0 s B h hs (by omega)
  · intro p C U w pv ou h2 h3 h4
    exact holds_0 D s N U p dd.length C dd [] pv ou w hD hs hN rfl h96 h2 h4
theorem job0f {D s N : Nat} {dd : List Nat} (hD : D < 64) (hs : s < 64) (hN : N < 64) (h96 : dd.length ≤ 96) : Job 0 D s N true dd.length dd echoL := by
  have hsm : Small [127, 0, 0, 0, 0, 0, 0, 1, 0, 0, 0, 0, 0, 0, 0, 0, 0, 0, 0, 0, 0, 0, 0, 0, 0, 0, 0, 0, 0, 0, 0, 0, s, 53, 95, 82, 96, 32, 95, 243] := by
    intro x hx
    simp only [preL, List.cons_append, List.nil_append, List.mem_cons, List.not_mem_nil, or_false] at hx
    omega
  refine job_D 7 [127, 0, 0, 0, 0, 0, 0, 1, 0, 0, 0, 0, 0, 0, 0, 0, 0, 0, 0, 0, 0, 0, 0, 0, 0, 0, 0, 0, 0, 0, 0, 0, s, 53, 95, 82, 96, 32, 95, 243] (cutB dd (2 ^ 200 + s) 32) rfl h96 (by simp [preL]) (by simp [preL]) hsm (fun w => copiesProgram_0f N s D dd.length w (by omega) (by omega) (by omega)) ?_ ?_
  · intro w0 wB c fb cap E cur cv iu vv g0 a0 a1 a2 a3 B h
    exact run_0f s B h hs (by omega)
  · intro p C U w pv ou h2 h3 h4
    exact holds_0f D s N U p dd.length C dd [] pv ou w hD hs hN rfl h96 h2 h4
theorem job1 {D s N : Nat} {dd : List Nat} (hD : D < 64) (hs : s < 64) (hN : N < 64) (h96 : dd.length ≤ 96) : Job 1 D s N false dd.length dd echoL := by
  have hsm : Small (preL ++ [96, N, 96, s, 96, D, 55, 96, 128, 95, 243]) := by
    intro x hx
    simp only [preL, List.cons_append, List.nil_append, List.mem_cons, List.not_mem_nil, or_false] at hx
    omega
  refine job_D 23 (preL ++ [96, N, 96, s, 96, D, 55, 96, 128, 95, 243]) (wrB (ffs 128) D (cutB dd s N)) rfl h96 (by simp [preL]) (by simp [preL]) hsm (fun w => copiesProgram_1 N s D dd.length w (by omega) (by omega) (by omega)) ?_ ?_
  · intro w0 wB c fb cap E cur cv iu vv g0 a0 a1 a2 a3 B h
    exact run_1 N s D B h hN hD hs (by omega)
  · intro p C U w pv ou h2 h3 h4
    exact holds_1 D s N U p dd.length C dd [] pv ou w hD hs hN rfl h96 h2 h4
theorem job1f {D s N : Nat} {dd : List Nat} (hD : D < 64) (hs : s < 64) (hN : N < 64) (h96 : dd.length ≤ 96) : Job 1 D s N true dd.length dd echoL := by
  have hsm : Small (preL ++ [96, N, 127, 0, 0, 0, 0, 0, 0, 1, 0, 0, 0, 0, 0, 0, 0, 0, 0, 0, 0, 0, 0, 0, 0, 0, 0, 0, 0, 0, 0, 0, 0, 0, s, 96, D, 55, 96, 128, 95, 243]) := by
    intro x hx
    simp only [preL, List.cons_append, List.nil_append, List.mem_cons, List.not_mem_nil, or_false] at hx
    omega
  refine job_D 23 (preL ++ [96, N, 127, 0, 0, 0, 0, 0, 0, 1, 0, 0, 0, 0, 0, 0, 0, 0, 0, 0, 0, 0, 0, 0, 0, 0, 0, 0, 0, 0, 0, 0, 0, 0, s, 96, D, 55, 96, 128, 95, 243]) (wrB (ffs 128) D (cutB dd (2 ^ 200 + s) N)) rfl h96 (by simp [preL]) (by simp [preL]) hsm (fun w => copiesProgram_1f N s D dd.length w (by omega) (by omega) (by omega)) ?_ ?_
  · intro w0 wB c fb cap E cur cv iu vv g0 a0 a1 a2 a3 B h
    exact run_1f N s D B h hN hD hs (by omega)
  · intro p C U w pv ou h2 h3 h4
    exact holds_1f D s N U p dd.length C dd [] pv ou w hD hs hN rfl h96 h2 h4
theorem job2 {D s N : Nat} {dd : List Nat} (hD : D < 64) (hs : s < 64) (hN : N < 64) (h96 : dd.length ≤ 96) : Job 2 D s N false dd.length dd echoL := by
  have hsm : Small (preL ++ [96, N, 96, s, 96, D, 57, 96, 128, 95, 243]) := by
    intro x hx
    simp only [preL, List.cons_append, List.nil_append, List.mem_cons, List.not_mem_nil, or_false] at hx
    omega
  refine job_D 23 (preL ++ [96, N, 96, s, 96, D, 57, 96, 128, 95, 243]) (wrB (ffs 128) D (cutB (preL ++ [96, N, 96, s, 96, D, 57, 96, 128, 95, 243]) s N)) rfl h96 (by simp [preL]) (by simp [preL]) hsm (fun w => copiesProgram_2 N s D dd.length w (by omega) (by omega) (by omega)) ?_ ?_
  · intro w0 wB c fb cap E cur cv iu vv g0 a0 a1 a2 a3 B h
    exact run_2 N s D B h hN hD hs
  · intro p C U w pv ou h2 h3 h4
    exact holds_2 D s N U p dd.length C dd (preL ++ [96, N, 96, s, 96, D, 57, 96, 128, 95, 243]) pv ou w hD hs hN rfl h96 h2 h3 (by simp [preL]) (by simp [preL]) hsm h4
theorem job2f {D s N : Nat} {dd : List Nat} (hD : D < 64) (hs : s < 64) (hN : N < 64) (h96 : dd.length ≤ 96) : Job 2 D s N true dd.length dd echoL := by
  have hsm : Small (preL ++ [96, N, 127, 0, 0, 0, 0, 0, 0, 1, 0, 0, 0, 0, 0, 0, 0, 0, 0, 0, 0, 0, 0, 0, 0, 0, 0, 0, 0, 0, 0, 0, 0, 0, s, 96, D, 57, 96, 128, 95, 243]) := by
    intro x hx
    simp only [preL, List.cons_append, List.nil_append, List.mem_cons, List.not_mem_nil, or_false] at hx
    omega
  refine job_D 23 (preL ++ [96, N, 127, 0, 0, 0, 0, 0, 0, 1, 0, 0, 0, 0, 0, 0, 0, 0, 0, 0, 0, 0, 0, 0, 0, 0, 0, 0, 0, 0, 0, 0, 0, 0, s, 96, D, 57, 96, 128, 95, 243]) (wrB (ffs 128) D (cutB (preL ++ [96, N, 127, 0, 0, 0, 0, 0, 0, 1, 0, 0, 0, 0, 0, 0, 0, 0, 0, 0, 0, 0, 0, 0, 0, 0, 0, 0, 0, 0, 0, 0, 0, 0, s, 96, D, 57, 96, 128, 95, 243]) (2 ^ 200 + s) N)) rfl h96 (by simp [preL]) (by simp [preL]) hsm (fun w => copiesProgram_2f N s D dd.length w (by omega) (by omega) (by omega)) ?_ ?_
  · intro w0 wB c fb cap E cur cv iu vv g0 a0 a1 a2 a3 B h
    exact run_2f N s D B h hN hD hs
  · intro p C U w pv ou h2 h3 h4
    exact holds_2f D s N U p dd.length C dd (preL ++ [96, N, 127, 0, 0, 0, 0, 0, 0, 1, 0, 0, 0, 0, 0, 0, 0, 0, 0, 0, 0, 0, 0, 0, 0, 0, 0, 0, 0, 0, 0, 0, 0, 0, s, 96, D, 57, 96, 128, 95, 243]) pv ou w hD hs hN rfl h96 h2 h3 (by simp [preL]) (by simp [preL]) hsm h4
theorem job3 {D s N : Nat} {dd : List Nat} (hD : D < 64) (hs : s < 64) (hN : N < 64) (h96 : dd.length ≤ 96) : Job 3 D s N false dd.length dd dd := by
  have hsm : Small (preL ++ [96, N, 96, s, 96, D, 96, 2, 60, 96, 128, 95, 243]) := by
    intro x hx
    simp only [preL, List.cons_append, List.nil_append, List.mem_cons, List.not_mem_nil, or_false] at hx
    omega
  refine job_D 24 (preL ++ [96, N, 96, s, 96, D, 96, 2, 60, 96, 128, 95, 243]) (wrB (ffs 128) D (cutB dd s N)) rfl h96 (by simp [preL]) (by simp [preL]) hsm (fun w => copiesProgram_3 N s D dd.length w (by omega) (by omega) (by omega)) ?_ ?_
  · intro w0 wB c fb cap E cur cv iu vv g0 a0 a1 a2 a3 B h
    exact run_3 N s D B h hN hD hs (by omega)
  · intro p C U w pv ou h2 h3 h4
    exact holds_3 D s N U p dd.length C dd [] pv ou w hD hs hN rfl h96 h2 h4
theorem job3f {D s N : Nat} {dd : List Nat} (hD : D < 64) (hs : s < 64) (hN : N < 64) (h96 : dd.length ≤ 96) : Job 3 D s N true dd.length dd dd := by
  have hsm : Small (preL ++ [96, N, 127, 0, 0, 0, 0, 0, 0, 1, 0, 0, 0, 0, 0, 0, 0, 0, 0, 0, 0, 0, 0, 0, 0, 0, 0, 0, 0, 0, 0, 0, 0, 0, s, 96, D, 96, 2, 60, 96, 128, 95, 243]) := by
    intro x hx
    simp only [preL, List.cons_append, List.nil_append, List.mem_cons, List.not_mem_nil, or_false] at hx
    omega
  refine job_D 24 (preL ++ [96, N, 127, 0, 0, 0, 0, 0, 0, 1, 0, 0, 0, 0, 0, 0, 0, 0, 0, 0, 0, 0, 0, 0, 0, 0, 0, 0, 0, 0, 0, 0, 0, 0, s, 96, D, 96, 2, 60, 96, 128, 95, 243]) (wrB (ffs 128) D (cutB dd (2 ^ 200 + s) N)) rfl h96 (by simp [preL]) (by simp [preL]) hsm (fun w => copiesProgram_3f N s D dd.length w (by omega) (by omega) (by omega)) ?_ ?_
  · intro w0 wB c fb cap E cur cv iu vv g0 a0 a1 a2 a3 B h
    exact run_3f N s D B h hN hD hs (by omega)
  · intro p C U w pv ou h2 h3 h4
    exact holds_3f D s N U p dd.length C dd [] pv ou w hD hs hN rfl h96 h2 h4
theorem job4 {D s N : Nat} {dd : List Nat} (hD : D < 64) (hs : s < 64) (hN : N < 64) (h96 : dd.length ≤ 96) : Job 4 D s N false dd.length dd echoL := by
  have hsm : Small (preL ++ [96, 128, 95, 95, 55, 96, N, 96, s, 96, D, 94, 96, 128, 95, 243]) := by
    intro x hx
    simp only [preL, List.cons_append, List.nil_append, List.mem_cons, List.not_mem_nil, or_false] at hx
    omega
  refine job_D 27 (preL ++ [96, 128, 95, 95, 55, 96, N, 96, s, 96, D, 94, 96, 128, 95, 243]) (wrB (cutB dd 0 128) D (cutB (cutB dd 0 128) s N)) rfl h96 (by simp [preL]) (by simp [preL]) hsm (fun w => copiesProgram_4 N s D dd.length w (by omega) (by omega) (by omega)) ?_ ?_
  · intro w0 wB c fb cap E cur cv iu vv g0 a0 a1 a2 a3 B h
    exact run_4 N s D B h hN hD hs (by omega)
  · intro p C U w pv ou h2 h3 h4
    exact holds_4 D s N U p dd.length C dd [] pv ou w hD hs hN rfl h96 h2 h4
theorem job4f {D s N : Nat} {dd : List Nat} (hD : D < 64) (hs : s < 64) (hN : N < 64) (h96 : dd.length ≤ 96) : Job 4 D s N true dd.length dd echoL := by
  have hsm : Small (preL ++ [96, 128, 95, 95, 55, 96, N, 96, s, 96, D, 94, 96, 128, 95, 243]) := by
    intro x hx
    simp only [preL, List.cons_append, List.nil_append, List.mem_cons, List.not_mem_nil, or_false] at hx
    omega
  refine job_D 27 (preL ++ [96, 128, 95, 95, 55, 96, N, 96, s, 96, D, 94, 96, 128, 95, 243]) (wrB (cutB dd 0 128) D (cutB (cutB dd 0 128) s N)) rfl h96 (by simp [preL]) (by simp [preL]) hsm (fun w => copiesProgram_4f N s D dd.length w (by omega) (by omega) (by omega)) ?_ ?_
  · intro w0 wB c fb cap E cur cv iu vv g0 a0 a1 a2 a3 B h
    exact run_4 N s D B h hN hD hs (by omega)
  · intro p C U w pv ou h2 h3 h4
    exact holds_4f D s N U p dd.length C dd [] pv ou w hD hs hN rfl h96 h2 h4
theorem job6 {D s N : Nat} {dd : List Nat} (hD : D < 64) (hs : s < 64) (hN : N < 64) (h96 : dd.length ≤ 96) : Job 6 D s N false dd.length dd echoL := by
  have hsm : Small (preL ++ [54, 95, 96, 128, 55, 96, N, 96, D, 96, dd.length, 96, 128, 95, 96, 2, 90, 241, 96, 128, 95, 243]) := by
    intro x hx
    simp only [preL, List.cons_append, List.nil_append, List.mem_cons, List.not_mem_nil, or_false] at hx
    omega
  refine job_D 38 (preL ++ [54, 95, 96, 128, 55, 96, N, 96, D, 96, dd.length, 96, 128, 95, 96, 2, 90, 241, 96, 128, 95, 243]) (wrB (ffs 128) D (dd.take (min N dd.length))) rfl h96 (by simp [preL]) (by simp [preL]) hsm (fun w => copiesProgram_6 N s D dd.length w (by omega) (by omega) (by omega) (by omega)) ?_ ?_
  · intro w0 wB c fb cap E cur cv iu vv g0 a0 a1 a2 a3 B h
    exact run_6 N s D B h hN hD hs h96
  · intro p C U w pv ou h2 h3 h4
    exact holds_6 D s N U p dd.length C dd [] pv ou w hD hs hN rfl h96 h2 h4
theorem job6f {D s N : Nat} {dd : List Nat} (hD : D < 64) (hs : s < 64) (hN : N < 64) (h96 : dd.length ≤ 96) : Job 6 D s N true dd.length dd echoL := by
  have hsm : Small (preL ++ [54, 95, 96, 128, 55, 96, N, 96, D, 96, dd.length, 96, 128, 95, 96, 2, 90, 241, 96, 128, 95, 243]) := by
    intro x hx
    simp only [preL, List.cons_append, List.nil_append, List.mem_cons, List.not_mem_nil, or_false] at hx
    omega
  refine job_D 38 (preL ++ [54, 95, 96, 128, 55, 96, N, 96, D, 96, dd.length, 96, 128, 95, 96, 2, 90, 241, 96, 128, 95, 243]) (wrB (ffs 128) D (dd.take (min N dd.length))) rfl h96 (by simp [preL]) (by simp [preL]) hsm (fun w => copiesProgram_6f N s D dd.length w (by omega) (by omega) (by omega) (by omega)) ?_ ?_
  · intro w0 wB c fb cap E cur cv iu vv g0 a0 a1 a2 a3 B h
    exact run_6 N s D B h hN hD hs h96
  · intro p C U w pv ou h2 h3 h4
    exact holds_6f D s N U p dd.length C dd [] pv ou w hD hs hN rfl h96 h2 h4
theorem job5 {D s N : Nat} {dd : List Nat} (hD : D < 64) (hs : s < 64) (hN : N < 64) (h96 : dd.length ≤ 96) (hfit : s + N ≤ dd.length) : Job 5 D s N false dd.length dd echoL := by
  have hsm : Small (preL ++ [54, 95, 96, 128, 55, 95, 95, 96, dd.length, 96, 128, 95, 96, 2, 90, 241, 96, N, 96, s, 96, D, 62, 96, 128, 95, 243]) := by
    intro x hx
    simp only [preL, List.cons_append, List.nil_append, List.mem_cons, List.not_mem_nil, or_false] at hx
    omega
  refine job_D 42 (preL ++ [54, 95, 96, 128, 55, 95, 95, 96, dd.length, 96, 128, 95, 96, 2, 90, 241, 96, N, 96, s, 96, D, 62, 96, 128, 95, 243]) (wrB (ffs 128) D (cutB dd s N)) rfl h96 (by simp [preL]) (by simp [preL]) hsm (fun w => copiesProgram_5 N s D dd.length w (by omega) (by omega) (by omega) (by omega)) ?_ ?_
  · intro w0 wB c fb cap E cur cv iu vv g0 a0 a1 a2 a3 B h
    exact run_5 N s D B h hN hD hs h96 hfit
  · intro p C U w pv ou h2 h3 h4
    exact holds_5 D s N U p dd.length C dd [] pv ou w hD hs hN rfl h96 hfit h2 h4
theorem job5no {D s N : Nat} {dd : List Nat} (hD : D < 64) (hs : s < 64) (hN : N < 64) (h96 : dd.length ≤ 96) (hfit : dd.length < s + N) : Job 5 D s N false dd.length dd echoL := by
  have hsm : Small (preL ++ [54, 95, 96, 128, 55, 95, 95, 96, dd.length, 96, 128, 95, 96, 2, 90, 241, 96, N, 96, s, 96, D, 62, 96, 128, 95, 243]) := by
    intro x hx
    simp only [preL, List.cons_append, List.nil_append, List.mem_cons, List.not_mem_nil, or_false] at hx
    omega
  refine job_F 39 (preL ++ [54, 95, 96, 128, 55, 95, 95, 96, dd.length, 96, 128, 95, 96, 2, 90, 241, 96, N, 96, s, 96, D, 62, 96, 128, 95, 243]) [] rfl h96 (by simp [preL]) (by simp [preL]) hsm (fun w => copiesProgram_5 N s D dd.length w (by omega) (by omega) (by omega) (by omega)) ?_ ?_
  · intro w0 wB c fb cap E cur cv iu vv g0 a0 a1 a2 a3 B h
    exact run_5_no N s D B h hN hD hs h96 hfit
  · intro p C U w pv ou h2 h3 h4
    exact holds_5no D s N U p dd.length C pv ou w hD hs hN h96 hfit h4
theorem job5fno {D s N : Nat} {dd : List Nat} (hD : D < 64) (hs : s < 64) (hN : N < 64) (h96 : dd.length ≤ 96) : Job 5 D s N true dd.length dd echoL := by
  have hsm : Small (preL ++ [54, 95, 96, 128, 55, 95, 95, 96, dd.length, 96, 128, 95, 96, 2, 90, 241, 96, N, 127, 0, 0, 0, 0, 0, 0, 1, 0, 0, 0, 0, 0, 0, 0, 0, 0, 0, 0, 0, 0, 0, 0, 0, 0, 0, 0, 0, 0, 0, 0, 0, s, 96, D, 62, 96, 128, 95, 243]) := by
    intro x hx
    simp only [preL, List.cons_append, List.nil_append, List.mem_cons, List.not_mem_nil, or_false] at hx
    omega
  refine job_F 39 (preL ++ [54, 95, 96, 128, 55, 95, 95, 96, dd.length, 96, 128, 95, 96, 2, 90, 241, 96, N, 127, 0, 0, 0, 0, 0, 0, 1, 0, 0, 0, 0, 0, 0, 0, 0, 0, 0, 0, 0, 0, 0, 0, 0, 0, 0, 0, 0, 0, 0, 0, 0, s, 96, D, 62, 96, 128, 95, 243]) [] rfl h96 (by simp [preL]) (by simp [preL]) hsm (fun w => copiesProgram_5f N s D dd.length w (by omega) (by omega) (by omega) (by omega)) ?_ ?_
  · intro w0 wB c fb cap E cur cv iu vv g0 a0 a1 a2 a3 B h
    exact run_5f_no N s D B h hN hD hs h96
  · intro p C U w pv ou h2 h3 h4
    exact holds_5nof D s N U p dd.length C pv ou w hD hs hN h96 h4
theorem job_any (K D s N : Nat) (far : Bool) (dd : List Nat) (hK : K < 7) (hD : D < 64) (hs : s < 64) (hN : N < 64) (h96 : dd.length ≤ 96) (h3 : K ≠ 3) : Job K D s N far dd.length dd echoL := by
  have hc : K = 0 ∨ K = 1 ∨ K = 2 ∨ K = 4 ∨ K = 5 ∨ K = 6 := by omega
  rcases hc with rfl | rfl | rfl | rfl | rfl | rfl <;> cases far
  · exact job0 hD hs hN h96
  · exact job0f hD hs hN h96
  · exact job1 hD hs hN h96
  · exact job1f hD hs hN h96
  · exact job2 hD hs hN h96
  · exact job2f hD hs hN h96
  · exact job4 hD hs hN h96
  · exact job4f hD hs hN h96
  · rcases Nat.lt_or_ge dd.length (s + N) with h | h
    · exact job5no hD hs hN h96 h
    · exact job5 hD hs hN h96 h
  · exact job5fno hD hs hN h96
  · exact job6 hD hs hN h96
  · exact job6f hD hs hN h96
theorem job_3 (D s N : Nat) (far : Bool) (dd : List Nat) (hD : D < 64) (hs : s < 64) (hN : N < 64) (h96 : dd.length ≤ 96) : Job 3 D s N far dd.length dd dd := by
  cases far
  · exact job3 hD hs hN h96
  · exact job3f hD hs hN h96
theorem copies_as_any (kind dst src n : Nat) (far : Bool) (p : Option Addr) (len cap : Nat) (dd : List Nat) (w : World) (hlen : len ≤ 96) (hdd : dd.length = len) (hdv : DatV w (Value.slice p len cap) dd) :
    Calls Salg.prog 5 #[.int .u8 (kind : Int), .int .u8 (dst : Int), .int .u8 (src : Int), .int .u8 (n : Int), .bool far, .slice p len cap] w fun e w' => e = .returned (.bool true) ∧ Kept [] w w' := by
  have hD : dst % 64 < 64 := Nat.mod_lt _ (by decide)
  have hs : src % 64 < 64 := Nat.mod_lt _ (by decide)
  have hN : n % 64 < 64 := Nat.mod_lt _ (by decide)
  by_cases h3 : kind % 7 = 3
  · obtain ⟨pr, RcOK, k1, k2, k3, k4, k5, k6, k7⟩ := (job_3 (dst % 64) (src % 64) (n % 64) far dd hD hs hN (by omega)).ex
    rw [hdd] at k5 k6 k7
    exact copies_as_3 kind dst src n far _ _ _ p len cap dd pr RcOK w k1 h3 rfl rfl rfl hlen hdd hdv k2 k3 k4 k5 k6 (fun w pv rc => k7 p cap w pv rc)
  · obtain ⟨pr, RcOK, k1, k2, k3, k4, k5, k6, k7⟩ := (job_any (kind % 7) (dst % 64) (src % 64) (n % 64) far dd (Nat.mod_lt _ (by decide)) hD hs hN (by omega) h3).ex
    rw [hdd] at k5 k6 k7
    exact copies_as kind dst src n far _ _ _ _ p len cap dd pr RcOK w k1 rfl rfl rfl rfl h3 hlen hdd hdv k2 k3 k4 k5 k6 (fun w pv rc => k7 p cap w pv rc)
theorem copies_cut_any (kind dst src n : Nat) (far : Bool) (p : Option Addr) (len cap : Nat) (dd : List Nat) (w : World) (hlen : 96 < len) (hcap : 96 ≤ cap) (hdd : dd.length = 96) (hdv : DatV w (Value.slice p 96 96) dd) :
    Calls Salg.prog 5 #[.int .u8 (kind : Int), .int .u8 (dst : Int), .int .u8 (src : Int), .int .u8 (n : Int), .bool far, .slice p len cap] w fun e w' => e = .returned (.bool true) ∧ Kept [] w w' := by
  have hD : dst % 64 < 64 := Nat.mod_lt _ (by decide)
  have hs : src % 64 < 64 := Nat.mod_lt _ (by decide)
  have hN : n % 64 < 64 := Nat.mod_lt _ (by decide)
  by_cases h3 : kind % 7 = 3
  · obtain ⟨pr, RcOK, k1, k2, k3, k4, k5, k6, k7⟩ := (job_3 (dst % 64) (src % 64) (n % 64) far dd hD hs hN (by omega)).ex
    rw [hdd] at k5 k6 k7
    exact copies_cut_3 kind dst src n far _ _ _ p len cap dd pr RcOK w k1 h3 rfl rfl rfl hlen hcap hdd hdv k2 k3 k4 k5 k6 (fun w pv rc => k7 p 96 w pv rc)
  · obtain ⟨pr, RcOK, k1, k2, k3, k4, k5, k6, k7⟩ := (job_any (kind % 7) (dst % 64) (src % 64) (n % 64) far dd (Nat.mod_lt _ (by decide)) hD hs hN (by omega) h3).ex
    rw [hdd] at k5 k6 k7
    exact copies_cut kind dst src n far _ _ _ _ p len cap dd pr RcOK w k1 rfl rfl rfl rfl h3 hlen hcap hdd hdv k2 k3 k4 k5 k6 (fun w pv rc => k7 p 96 w pv rc)
end Go.Proofs.YgcsalGreat

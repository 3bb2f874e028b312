/-
  A part of the proof: see the text of the law.
-/
import Derived.Test.YtjiijjfpmaligaaDoorCba
import Derived.Test.YtjiijjfpmaligaaDoorCar
set_option linter.unusedSimpArgs false
set_option linter.unusedVariables false
namespace Go.Proofs.Try
open Go.Al
set_option linter.unusedVariables false
set_option linter.unusedSimpArgs false
set_option maxRecDepth 20000
set_option maxHeartbeats 16000000

theorem evS (t : T) (r : List VL) (x : VL × Int) (h1 : t.wfB = true) (h2 : ∀ v ∈ r, v.Right) (h3 : t.fits r.length) (h4 : t.eval r = x) : ACalls E.P 14 [.agg t.ex.fs, rowV r] [] (fun q H => q = .tup [.agg x.1.cs, .int .i64 x.2] ∧ H = []) := by
  obtain ⟨w, v⟩ := T.wfB_ok h1
  have := c14 h2 t w h3 v
  rwa [h4, tv_fs] at this
abbrev row1 : List VL := [⟨1, 5, ⟨#[]⟩⟩, ⟨2, 0, ⟨#[120]⟩⟩, VL.null]
abbrev row2 : List VL := [⟨1, 2, ⟨#[]⟩⟩, ⟨2, 0, ⟨#[120]⟩⟩, VL.null]
abbrev row3 : List VL := [⟨1, 1048576, ⟨#[]⟩⟩, VL.null, VL.null]
theorem e1 : ACalls E.P 14 [.agg s5.ex.fs, rowV row1] [] (fun q H => q = .tup [.agg (VL.ofB false).cs, .int .i64 0] ∧ H = []) := evS s5 row1 (VL.ofB false, 0) (by kernel_rfl) (by decide) (by simp [T.fits]) (by kernel_rfl)
theorem e2 : ACalls E.P 14 [.agg s5.ex.fs, rowV row2] [] (fun q H => q = .tup [.agg [.int .i64 0, .int .i64 0, .str ⟨#[]⟩], .int .i64 0] ∧ H = []) := evS s5 row2 (VL.null, 0) (by kernel_rfl) (by decide) (by simp [T.fits]) (by kernel_rfl)
theorem e3 : ACalls E.P 14 [.agg s6.ex.fs, rowV row3] [] (fun q H => q = .tup [.agg VL.null.cs, .int .i64 360] ∧ H = []) := evS s6 row3 (VL.null, 360) (by kernel_rfl) (by decide) (by simp [T.fits]) (by kernel_rfl)
theorem e4 : ACalls E.P 17 [.agg s7.ex.fs, rowV row3] [] (fun q H => q = .tup [.bool false, .int .i64 360] ∧ H = []) := by
  obtain ⟨w, v⟩ := T.wfB_ok (t := s7) (by kernel_rfl)
  have := c17 (r := row3) (by decide) s7 w (by simp [T.fits]) v
  rwa [show s7.eval row3 = (VL.null, 360) by kernel_rfl, show s7.holds row3 = false by kernel_rfl, tv_fs] at this
theorem siS (t u : T) (h1 : t.wfB = true) (h2 : t.simp = u) : ACalls E.P 31 [.agg t.ex.fs] [] (fun r H => r = .agg u.ex.fs ∧ H = []) := by
  obtain ⟨w, v⟩ := T.wfB_ok h1
  have := (c31 t w v).2.2
  rwa [h2, tv_fs, tv_fs] at this
theorem eqS (t : T) : ACalls E.P 37 [.agg t.ex.fs, .agg t.ex.fs] [] (fun r H => r = .bool true ∧ H = []) := by
  have := c37 t.ex t.ex
  rwa [show eqE t.ex t.ex = true from eqE_iff.2 rfl, tv_fs] at this
theorem z1 : ACalls E.P 36 [.agg s11.ex.fs] [] (fun r H => r = .int .i64 9 ∧ H = []) := by
  have := c36 s11.ex
  rwa [T.count_ex, show IntKind.i64.wrap ((s11.size : Nat) : Int) = 9 by kernel_rfl, tv_fs] at this
theorem z2 : ACalls E.P 28 [.agg s11.ex.fs] [] (fun r H => r = .slc 0 6 3 ∧ H = [.arr 27 6 (s11.conj.map avT)]) := by
  obtain ⟨w, v⟩ := T.wfB_ok (t := s11) (by kernel_rfl)
  have := c28 s11 w (by decide)
  rwa [show s11.conj.length = 3 by kernel_rfl, tv_fs] at this
def RG.someR' : RG := ⟨false, false, false, VL.null, VL.null, false, false⟩
theorem z3 : ACalls E.P 25 [.agg RG.someR'.cs, .agg [.int .i64 1, .int .i64 1, .str ⟨#[]⟩]] [] (fun r H => r = .bool true ∧ H = []) := by
  have := c25 RG.someR' ⟨1, 1, ⟨#[]⟩⟩
  rwa [show RG.someR'.has ⟨1, 1, ⟨#[]⟩⟩ = true by kernel_rfl, vl_av] at this
theorem c45null (op : Int) (a : T) : ACalls E.P 45 [.int .i64 op, .agg a.ex.fs, .agg [.int .i64 2, .int .i64 0, .int .i64 0, .int .i64 0, .str ⟨#[]⟩, .raw (.slice none 0 0)]] [] (fun r H => r = .agg (T.bin op a (.val VL.null)).ex.fs ∧ H = []) := c45n op a VL.null
abbrev ByS : Prop := ACalls E.P 26 [.agg s11.ex.fs, .int .i64 0] [] (fun r H => r = .agg [.bool false, .bool false, .bool false, .int .i64 1, .int .i64 3, .str ⟨#[]⟩, .int .i64 1, .int .i64 7, .str ⟨#[]⟩, .bool false, .bool true] ∧ H = []) ∧
  ACalls E.P 26 [.agg s11.ex.fs, .int .i64 2] [] (fun r H => r = .agg [.bool false, .bool false, .bool true, .int .i64 0, .int .i64 0, .str ⟨#[]⟩, .int .i64 0, .int .i64 0, .str ⟨#[]⟩, .bool false, .bool false] ∧ H = []) ∧
  ACalls E.P 26 [.agg s12.ex.fs, .int .i64 0] [] (fun r H => r = .agg [.bool true, .bool false, .bool false, .int .i64 0, .int .i64 0, .str ⟨#[]⟩, .int .i64 0, .int .i64 0, .str ⟨#[]⟩, .bool false, .bool false] ∧ H = [])
theorem c13' (hb : ByS) : ACalls E.P 13 [] [] (fun r H => r = .bool true ∧ H = []) := by
  obtain ⟨b1, b2, b3⟩ := hb
  have h44 : ∀ b, ACalls E.P 44 [.bool b] [] (fun r H => r = .agg (VL.ofB b).cs ∧ H = []) := c44
  have g1 := chkS s1 (3, 0) (by kernel_rfl) (by decide) k1
  have g2 := chkS s2 (0, 7) (by kernel_rfl) (by decide) k2
  have g3 := chkS s3 (0, 7) (by kernel_rfl) (by decide) k3
  have g4 := chkS s4 (1, 0) (by kernel_rfl) (by decide) k4
  have i1 := siS s9 s9' (by kernel_rfl) k5
  have i2 := siS s10 s10' (by kernel_rfl) k6
  have i3 := siS s8 s8 (by kernel_rfl) k7
  refine ok13.acalls hE hm (by simp) fun N hN => ?_
  unfold mc13
  simp only [lA, ptrCells, ptrAdd, isNil, readsV, readsP, isCall, wrote, srcOf, seval]
  repeat' (first
   | (with_reducible apply St.o; constructor) <;> intro _
   | with_reducible first | refine LenR_i fun _ => ?_ | refine And.intro (by omega) ?_ | (apply Sp.o; constructor) | refine frz0_i ?_
   | ((with_reducible apply Sc.o true; constructor); simp only [lP, seval, fillE, ti24, ti27, pa_exs, vw_exs]; (first | refine ⟨_, h44 _, ?_⟩ | refine ⟨_, g1, ?_⟩ | refine ⟨_, g2, ?_⟩ | refine ⟨_, g3, ?_⟩ | refine ⟨_, g4, ?_⟩ | refine ⟨_, e1, ?_⟩ | refine ⟨_, e2, ?_⟩ | refine ⟨_, e3, ?_⟩ | refine ⟨_, e4, ?_⟩); rintro _ _ ⟨rfl, rfl⟩; simp only [lA, lP, ptrCells, ptrAdd, isNil, readsV, readsP, isCall, wrote, srcOf, seval, fillE, ti24, ti27, pa_exs, vw_exs])
   | ((with_reducible apply Sc.o false; constructor); simp only [lP, seval, fillE, ti24, ti27, pa_exs, vw_exs]; (first | refine ⟨_, c45 _ _ _, ?_⟩ | refine ⟨_, c45n _ _ (VL.ofB _), ?_⟩ | refine ⟨_, c45null _ _, ?_⟩ | refine ⟨_, c46 _, ?_⟩ | refine ⟨_, c47 _, ?_⟩ | refine ⟨_, c48 _, ?_⟩); rintro _ _ ⟨rfl, rfl⟩; simp only [lA, lP, ptrCells, ptrAdd, isNil, readsV, readsP, isCall, wrote, srcOf, seval, fillE, ti24, ti27, pa_exs, vw_exs])
   | ((with_reducible refine keep0_i ?_); simp only [lP, seval])
   | simp (maxSteps := 1000000) (disch := omega) only [lE, ptrCells, ptrAdd, isNil, readsV, readsP, isCall, wrote, srcOf, seval, fillE, ti24, ti27, pa_exs, vw_exs])
  refine any_cut (fr' := [(3, .op 0 0), (5, .int .i64 3), (11, .int .i64 1), (14, .op 1 0), (16, .op 2 0), (23, .op 3 0)]) (H' := [.box [.int .i64 2, .int .i64 0, .int .i64 (VL.ofB true).k, .int .i64 (VL.ofB true).n, .str (VL.ofB true).s, .raw (.slice none 0 0)], .box (VL.ofB false).cs, .box [.int .i64 0, .int .i64 0, .str ⟨#[]⟩], .box s8.ex.fs]) [] ?_ ?_
  · simp only [lA, ptrCells, ptrAdd, isNil, readsV, readsP, isCall, wrote, srcOf, seval, ti27]
    repeat' (first
     | (with_reducible apply St.o; constructor) <;> intro _
     | with_reducible first | refine LenR_i fun _ => ?_ | refine And.intro (by omega) ?_ | (apply Sp.o; constructor) | refine frz0_i ?_
     | ((with_reducible apply Sc.o false; constructor); simp only [lP, seval, ti27, pa_exs, vw_exs]; (first | refine ⟨_, c45 _ _ _, ?_⟩ | refine ⟨_, c45n _ _ (VL.ofB _), ?_⟩ | refine ⟨_, c45null _ _, ?_⟩ | refine ⟨_, c46 _, ?_⟩ | refine ⟨_, c47 _, ?_⟩ | refine ⟨_, c48 _, ?_⟩); rintro _ _ ⟨rfl, rfl⟩; simp only [lA, lP, ptrCells, ptrAdd, isNil, readsV, readsP, isCall, wrote, srcOf, seval, ti27, pa_exs, vw_exs])
     | simp (maxSteps := 1000000) (disch := omega) only [lE, ptrCells, ptrAdd, isNil, readsV, readsP, isCall, wrote, srcOf, seval, ti27, pa_exs, vw_exs])
    all_goals exact Ent.to [2, 6, 8, 11] false (by simp) (by simp) rfl (by simp only [lP, seval] <;> (try simp)) (by simp only [lP, seval, pa_exs])
  · simp only [lA, ptrCells, ptrAdd, isNil, readsV, readsP, isCall, wrote, srcOf, seval, ti27]
    have eqU := eqS
    repeat' (first
     | (with_reducible apply St.o; constructor) <;> intro _
     | with_reducible first | refine LenR_i fun _ => ?_ | refine And.intro (by omega) ?_ | (apply Sp.o; constructor) | refine frz0_i ?_
     | ((with_reducible apply Sc.o true; constructor); simp only [lP, seval, ti24, ti27, ti45, pa_exs, vw_exs, flatEq, strA]; (first | refine ⟨_, b1, ?_⟩ | refine ⟨_, b2, ?_⟩ | refine ⟨_, b3, ?_⟩ | refine ⟨_, eqS _, ?_⟩ | refine ⟨_, z1, ?_⟩ | refine ⟨_, z3, ?_⟩ | refine ⟨_, h44 _, ?_⟩); rintro _ _ ⟨rfl, rfl⟩; simp only [lA, lP, ptrCells, ptrAdd, isNil, readsV, readsP, isCall, wrote, srcOf, seval, ti24, ti27, ti45, pa_exs, vw_exs, flatEq, strA])
     | ((with_reducible apply Sc.o false; constructor); simp only [lP, seval, ti24, ti27, ti45, pa_exs, vw_exs, flatEq, strA]; (first | refine ⟨_, i1, ?_⟩ | refine ⟨_, i2, ?_⟩ | refine ⟨_, i3, ?_⟩ | refine ⟨_, z2, ?_⟩ | refine ⟨_, c45 _ _ _, ?_⟩ | refine ⟨_, c45n _ _ (VL.ofB _), ?_⟩ | refine ⟨_, c46 _, ?_⟩ | refine ⟨_, c47 _, ?_⟩ | refine ⟨_, c48 _, ?_⟩); rintro _ _ ⟨rfl, rfl⟩; simp only [lA, lP, ptrCells, ptrAdd, isNil, readsV, readsP, isCall, wrote, srcOf, seval, ti24, ti27, ti45, pa_exs, vw_exs, flatEq, strA])
     | ((with_reducible refine keep0_i ?_); simp only [lP, seval])
     | simp (maxSteps := 1000000) (disch := omega) only [lE, ptrCells, ptrAdd, isNil, readsV, readsP, isCall, wrote, srcOf, seval, ti24, ti27, ti45, pa_exs, vw_exs, flatEq, strA])
    all_goals (rename_i h; simp [T.ex, EX.val] at h)
end Go.Proofs.Try

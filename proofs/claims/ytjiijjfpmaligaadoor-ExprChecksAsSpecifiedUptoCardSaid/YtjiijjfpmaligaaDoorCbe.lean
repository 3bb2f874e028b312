/-
  A part of the proof: see the text of the law.
-/
import Derived.Test.YtjiijjfpmaligaaDoorCav
import Derived.Test.YtjiijjfpmaligaaDoorCax
import Derived.Test.YtjiijjfpmaligaaDoorCaw
import Derived.Test.YtjiijjfpmaligaaDoorCbb
import Derived.Test.YtjiijjfpmaligaaDoorCbf
set_option linter.unusedSimpArgs false
set_option linter.unusedVariables false
namespace Go.Proofs.Try
open Go.Al
set_option linter.unusedVariables false
set_option linter.unusedSimpArgs false
set_option maxRecDepth 20000
set_option maxHeartbeats 16000000

/-! ### Bounds -/
def T.bounds (t : T) (c : Int) : RG := t.simp.conj.foldl (fun o x => o.meet (x.bnd c)) RG.fullR
theorem conj_wf : ∀ t : T, t.wf → ∀ x ∈ t.conj, x.wf
  | .col n, h, x, hx => by simp only [T.conj, List.mem_singleton] at hx; subst hx; exact h
  | .val v, h, x, hx => by simp only [T.conj, List.mem_singleton] at hx; subst hx; exact h
  | .un op a, h, x, hx => by simp only [T.conj, List.mem_singleton] at hx; subst hx; exact h
  | .bin op a b, h, x, hx => by
    rw [T.conj] at hx
    split at hx
    · rcases List.mem_append.1 hx with hx | hx
      · exact conj_wf a h.2.1 x hx
      · exact conj_wf b h.2.2 x hx
    · rw [List.mem_singleton] at hx; subst hx; exact h
theorem c26 (t : T) (c : Int) (hw : t.wf) (hv : t.vals VL.Right) (hs : t.simp.size ≤ 1048576) : ACalls E.P 26 [t.ex.av, .int .i64 c] [] (fun r H => r = (t.bounds c).av ∧ H = []) := by
  obtain ⟨h1, h2, h31⟩ := c31 t hw hv
  have h28 := c28 t.simp h1 hs
  have hl := T.conj_len t.simp
  have hcw := conj_wf t.simp h1
  have hmax := maxLen_eq
  unfold T.bounds
  generalize t.simp.conj = l at *
  have h67 : ∀ x : T, x.wf → ACalls E.P 67 [.agg x.ex.fs, .int .i64 c] [] (fun r H => r = .agg (x.bnd c).cs ∧ H = []) := fun x hx => by
    have := c67 x c hx; rwa [tv_fs] at this
  have h24 : ∀ a b : RG, ACalls E.P 24 [.agg a.cs, .agg b.cs] [] (fun r H => r = .agg (a.meet b).cs ∧ H = []) := c24
  simp only [tv_fs] at h31 h28 ⊢
  simp only [rg_av]
  refine ok26.acalls hE hm (by simp) fun N hN => ?_
  unfold mc26
  simp only [lA, ptrCells, ptrAdd, isNil, readsV, readsP, isCall, wrote, srcOf, seval]
  repeat' (first
   | (with_reducible apply St.o; constructor) <;> intro _
   | with_reducible first | refine LenR_i fun _ => ?_ | refine And.intro (by omega) ?_ | (apply Sp.o; constructor) | refine frz0_i ?_
   | ((with_reducible apply Sc.o false; constructor); simp only [lP, seval, ti45, ti27, renL_Ts, List.length_map]; (first | refine ⟨_, h31, ?_⟩ | refine ⟨_, h28, ?_⟩); rintro _ _ ⟨rfl, rfl⟩; simp only [lA, lP, ptrCells, ptrAdd, isNil, readsV, readsP, isCall, wrote, srcOf, seval, ti45, ti27, renL_Ts, List.length_map])
   | ((with_reducible refine keep0_i ?_); simp only [lP, seval])
   | simp (maxSteps := 1000000) (disch := omega) only [lE, ptrCells, ptrAdd, isNil, readsV, readsP, isCall, wrote, srcOf, seval, ti45, ti27, renL_Ts, List.length_map])
  refine loop_i (fun j : Nat => j ≤ l.length) (fun j => ⟨[(1, .int .i64 c), (2, .op 0 0), (4, .op 1 0), (5, .op 2 0), (11, .view 6 (l.map avT)), (12, .int .i64 l.length), (13, .int .i64 j)], [.box t.ex.fs, .box RG.someR.cs, .box ((l.take j).foldl (fun o x => o.meet (x.bnd c)) RG.fullR).cs]⟩) (fun j => l.length - j) 0 (by omega)
    (Ent.to [0, 1, 2] true (by simp) (by simp) rfl (by simp only [lP, seval, vw_Ts, pa_Ts, List.length_map] <;> (try simp) <;> (try omega)) (by simp only [lP, seval, pa_exs, List.take_zero, List.foldl_nil]; rfl)) ?_
  intro j hj
  by_cases hin : j < l.length
  · have hlt : ((j : Int) < (l.length : Int)) := by omega
    have hxw : (l.getD j default).wf := hcw _ (by simp [hin])
    have h67x := h67 _ hxw
    have hs2 : (l.take (j + 1)).foldl (fun o x => o.meet (x.bnd c)) RG.fullR = ((l.take j).foldl (fun o x => o.meet (x.bnd c)) RG.fullR).meet ((l.getD j default).bnd c) := by
      rw [List.take_succ_eq_append_getElem hin, List.foldl_append]; simp [hin]
    generalize (l.take j).foldl (fun o x => o.meet (x.bnd c)) RG.fullR = acc at *
    repeat' (first
     | (with_reducible apply St.o; constructor) <;> intro _
     | with_reducible first | refine LenR_i fun _ => ?_ | refine And.intro (by omega) ?_ | (apply Sp.o; constructor) | refine frz0_i ?_
     | ((with_reducible apply Sc.o true; constructor); simp only [lP, seval, IdxR_Ts, Int.toNat_natCast, List.length_map, hlt, decide_true, ti27, ti45]; (first | refine ⟨_, h67x, ?_⟩ | refine ⟨_, h24 _ _, ?_⟩); rintro _ _ ⟨rfl, rfl⟩; simp only [lA, lP, ptrCells, ptrAdd, isNil, readsV, readsP, isCall, wrote, srcOf, seval, IdxR_Ts, Int.toNat_natCast, List.length_map, hlt, decide_true, ti27, ti45])
     | with_reducible refine any_i [2] ?_
     | ((with_reducible refine keep0_i ?_); simp only [lP, seval])
     | simp (maxSteps := 1000000) (disch := omega) only [lE, ptrCells, ptrAdd, isNil, readsV, readsP, isCall, wrote, srcOf, seval, IdxR_Ts, Int.toNat_natCast, List.length_map, hlt, decide_true, ti27, ti45])
    all_goals
      refine back_i (j + 1) (by omega) (by omega) ?_
      rw [hs2]
      exact (Ent.to [0,1,2] false (by simp) (by simp) rfl (by simp only [lP, seval, pa_Ts, vw_Ts, pa_exs] <;> (try simp) <;> (try omega)) (by simp only [lP, seval, pa_Ts, vw_Ts, pa_exs] <;> (try simp) <;> (try omega)))
  · obtain rfl : j = l.length := by omega
    repeat' (first
     | (with_reducible apply St.o; constructor) <;> intro _
     | with_reducible first | refine LenR_i fun _ => ?_ | refine And.intro (by omega) ?_ | (apply Sp.o; constructor) | refine frz0_i ?_
     | ((with_reducible refine keep0_i ?_); simp only [lP, seval])
     | simp (maxSteps := 1000000) (disch := omega) only [lE, ptrCells, ptrAdd, isNil, readsV, readsP, isCall, wrote, srcOf, seval, List.length_map, Int.lt_irrefl, decide_false, List.take_length, ti45, pa_exs])
end Go.Proofs.Try

namespace Go.Proofs.Try
open Go.Al
set_option linter.unusedVariables false
set_option linter.unusedSimpArgs false
set_option maxRecDepth 20000
theorem boS (t : T) (c : Int) (x : RG) (h1 : t.wfB = true) (h2 : t.simp.size ≤ 1048576) (h3 : t.bounds c = x) : ACalls E.P 26 [.agg t.ex.fs, .int .i64 c] [] (fun r H => r = .agg x.cs ∧ H = []) := by
  obtain ⟨w, v⟩ := T.wfB_ok h1
  have := c26 t c w v h2
  rwa [h3, tv_fs, rg_av] at this
theorem bys : ByS :=
  ⟨boS s11 0 ⟨false, false, false, ⟨1, 3, ⟨#[]⟩⟩, ⟨1, 7, ⟨#[]⟩⟩, false, true⟩ (by kernel_rfl) (by decide) (by kernel_rfl),
   boS s11 2 ⟨false, false, true, ⟨0, 0, ⟨#[]⟩⟩, ⟨0, 0, ⟨#[]⟩⟩, false, false⟩ (by kernel_rfl) (by decide) (by kernel_rfl),
   boS s12 0 ⟨true, false, false, ⟨0, 0, ⟨#[]⟩⟩, ⟨0, 0, ⟨#[]⟩⟩, false, false⟩ (by kernel_rfl) (by decide) (by kernel_rfl)⟩
theorem c13 : Sane := c13' bys
end Go.Proofs.Try

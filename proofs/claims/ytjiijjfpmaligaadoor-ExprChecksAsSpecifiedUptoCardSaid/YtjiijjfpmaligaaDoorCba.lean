/-
  A part of the proof: see the text of the law.
-/
import Derived.Test.YtjiijjfpmaligaaDoorCaz
import Derived.Test.YtjiijjfpmaligaaDoorCas
set_option linter.unusedSimpArgs false
set_option linter.unusedVariables false
namespace Go.Proofs.Try
open Go.Al
set_option linter.unusedVariables false
set_option linter.unusedSimpArgs false
set_option maxRecDepth 20000
set_option maxHeartbeats 16000000

theorem any_cut {P : Program} {m : Nat} {N : FN} {t : AT} {k : List It} {Q : Exit → AS → Prop} {fr fr' : List (Nat × AV)} {H H' : List AObj} (L : List Nat) (h1 : AR P m N L H t [] (fun e s => e = .normal ∧ Ent m N s ⟨fr', H'⟩) fr fr H) (h2 : R P m N k Q .normal fr' H') : AnyR P m N t k Q fr H :=
  any_i L (anyW_mono (fun fr2 H2 h => frz_i (by simp only [Rend] at h; exact h.2) h2) t H fr fr H h1)

abbrev numT (n : Int) : T := .val ⟨1, n, ⟨#[]⟩⟩
abbrev s1 : T := .bin 8 (.bin 3 (.col 0) (numT 1)) (numT 5)
abbrev s2 : T := .bin 6 (.col 0) (.col 1)
abbrev s3 : T := .un 14 (.col 0)
abbrev s4 : T := .bin 3 (.col 0) (.val VL.null)
abbrev s5 : T := .bin 12 (.col 2) (.bin 8 (.col 0) (numT 3))
abbrev s6 : T := .bin 5 (.col 0) (.col 0)
abbrev s7 : T := .bin 13 (.bin 6 (.bin 5 (.col 0) (.col 0)) (numT 1)) (.val (VL.ofB true))
abbrev s8 : T := .bin 12 (.bin 6 (.bin 3 (.col 0) (numT 1)) (numT 2)) (.val (VL.ofB false))
abbrev s9 : T := .un 14 (.bin 8 (numT 3) (.col 0))
abbrev s9' : T := .bin 9 (.col 0) (numT 3)
abbrev s10 : T := .bin 12 (.bin 6 (.bin 3 (.col 0) (numT 0)) (numT 1)) (.val (VL.ofB true))
abbrev s10' : T := .bin 6 (.col 0) (numT 1)
abbrev s11 : T := .bin 12 (.bin 12 (.bin 8 (numT 3) (.col 0)) (.bin 9 (.col 0) (numT 7))) (.col 2)
abbrev s12 : T := .bin 12 (.bin 6 (.col 0) (numT 1)) (.bin 10 (.col 0) (numT 1))
abbrev ks0 : List Int := [1, 2, 3]
theorem chk_T (ks : List Int) (t : T) (hw : t.wf) (hs : t.size ≤ 200) : chk ks t.ex = t.kind ks := by
  have : ¬ 200 < IntKind.i64.wrap (t.ex.count : Int) := by rw [T.count_ex, wrap_i64 (by omega) (by omega)]; omega
  rw [chk, if_neg this, T.formed t hw, if_pos rfl, tr_ex]
theorem T.okI_ex : ∀ {t : T}, (t.vals fun v => inI v.n) → t.ex.okI
  | .col _, _ => by simp [T.ex, EX.okI, EX.okIL, inI]
  | .val v, h => by simp only [T.ex, EX.okI, EX.okIL, and_true]; exact h
  | .un _ a, h => by simp only [T.ex, EX.okI, EX.okIL, and_true]; exact ⟨by simp [inI], T.okI_ex (t := a) h⟩
  | .bin _ a b, h => by simp only [T.ex, EX.okI, EX.okIL, and_true]; exact ⟨by simp [inI], T.okI_ex (t := a) h.1, T.okI_ex (t := b) h.2⟩
theorem right_inI {v : VL} (h : v.Right) : inI v.n := by
  simp only [VL.Right, inI] at *; omega
theorem T.vals_mono {p q : VL → Prop} (hpq : ∀ v, p v → q v) : ∀ {t : T}, t.vals p → t.vals q
  | .col _, _ => trivial
  | .val v, h => hpq v h
  | .un _ a, h => T.vals_mono (t := a) hpq h
  | .bin _ a b, h => ⟨T.vals_mono (t := a) hpq h.1, T.vals_mono (t := b) hpq h.2⟩
/-- Are the operators in their places? -/
def T.wfB : T → Bool
  | .col _ => true
  | .val v => decide v.Right
  | .un op a => (op == 14 || op == 15) && a.wfB
  | .bin op a b => decide (3 ≤ op ∧ op ≤ 13) && a.wfB && b.wfB
theorem T.wfB_ok : ∀ {t : T}, t.wfB = true → t.wf ∧ t.vals VL.Right
  | .col _, _ => ⟨trivial, trivial⟩
  | .val v, h => ⟨trivial, by simpa [T.wfB, T.vals] using h⟩
  | .un op a, h => by
    simp only [T.wfB, Bool.and_eq_true, Bool.or_eq_true, beq_iff_eq] at h
    obtain ⟨h1, h2⟩ := T.wfB_ok h.2
    exact ⟨⟨h.1, h1⟩, h2⟩
  | .bin op a b, h => by
    simp only [T.wfB, Bool.and_eq_true, decide_eq_true_eq] at h
    obtain ⟨h1, h2⟩ := T.wfB_ok h.1.2
    obtain ⟨h3, h4⟩ := T.wfB_ok h.2
    exact ⟨⟨h.1.1, h1, h3⟩, h2, h4⟩
theorem chkS (t : T) (x : Int × Int) (h1 : t.wfB = true) (h2 : t.size ≤ 200) (h3 : t.kind ks0 = x) : ACalls E.P 16 [.view 1 [.int .i64 1, .int .i64 2, .int .i64 3], .agg t.ex.fs] [] (fun r H => r = .tup [.int .i64 x.1, .int .i64 x.2] ∧ H = []) := by
  obtain ⟨w, v⟩ := T.wfB_ok h1
  have := c16 ks0 t.ex (T.okI_ex (T.vals_mono (fun v h => right_inI h) v))
  rw [chk_T ks0 t w h2, h3, tv_fs] at this
  exact this
theorem k1 : s1.kind ks0 = (3, 0) := by kernel_rfl
theorem k2 : s2.kind ks0 = (0, 7) := by kernel_rfl
theorem k3 : s3.kind ks0 = (0, 7) := by kernel_rfl
theorem k4 : s4.kind ks0 = (1, 0) := by kernel_rfl
theorem k5 : s9.simp = s9' := by kernel_rfl
theorem k6 : s10.simp = s10' := by kernel_rfl
theorem k7 : s8.simp = s8 := by kernel_rfl
end Go.Proofs.Try

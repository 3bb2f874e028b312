/-
  A part of the proof: see the text of the law.
-/
import Derived.Test.YtlokeliagcaepaaEaa
import Derived.Test.YtlokeliagcaepaaPab
set_option linter.unusedSimpArgs false
set_option linter.unusedVariables false
namespace Go.Proofs.Try
open Go.Al
set_option maxRecDepth 100000
/-- alum/value.Right -/
def mc48 : MC :=
 (.seq (.ops [(none, (.e (.box 1 (.t 0)))),
 (none, (.v (.mov 2 (.c (.bool false)))))])
 (.seq (.seq (.ops [(none, (.v (.fld 3 0 (.t 1)))),
 (none, (.v (.load 4 false 1 (.t 3))))])
 (.block 0 (.seq (.ops [(none, (.v (.bin 6 .eql false (.t 4) (.c (.int .i64 0))))),
 (none, (.v (.mov 5 (.t 6))))])
 (.cond 5
 (.seq (.ops [(none, (.v (.load 7 true 3 (.t 1)))),
 (none, (.v (.build 8 [(.int .i64 0), (.int .i64 0), (.str ⟨#[]⟩)] []))),
 (none, (.v (.eq 9 false (.agg [(0, false, 1, .int), (1, false, 1, .int), (2, false, 1, .str)]) (.t 7) (.t 8)))),
 (none, (.v (.mov 2 (.t 9))))])
 .ret)
 (.seq (.ops [(none, (.v (.bin 11 .eql false (.t 4) (.c (.int .i64 1))))),
 (none, (.v (.mov 10 (.t 11))))])
 (.cond 10
 (.seq (.ops [(none, (.v (.fld 12 1 (.t 1)))),
 (none, (.v (.load 13 false 1 (.t 12)))),
 (none, (.v (.bin 14 .geq false (.t 13) (.c (.int .i64 (-549755813888)))))),
 (none, (.v (.mov 15 (.t 14)))),
 ((some (15, true)), (.v (.fld 16 1 (.t 1)))),
 ((some (15, true)), (.v (.load 17 false 1 (.t 16)))),
 ((some (15, true)), (.v (.bin 18 .leq false (.t 17) (.c (.int .i64 549755813887))))),
 (none, (.v (.pick 19 (.t 15) (.t 18) (.c (.bool false))))),
 (none, (.v (.mov 20 (.t 19)))),
 ((some (20, true)), (.v (.fld 21 2 (.t 1)))),
 ((some (20, true)), (.v (.load 22 false 1 (.t 21)))),
 ((some (20, true)), (.v (.bin 23 .eql false (.t 22) (.c (.str ⟨#[]⟩))))),
 (none, (.v (.pick 24 (.t 20) (.t 23) (.c (.bool false))))),
 (none, (.v (.mov 2 (.t 24))))])
 .ret)
 (.seq (.ops [(none, (.v (.bin 26 .eql false (.t 4) (.c (.int .i64 2))))),
 (none, (.v (.mov 25 (.t 26))))])
 (.cond 25
 (.seq (.ops [(none, (.v (.fld 27 1 (.t 1)))),
 (none, (.v (.load 28 false 1 (.t 27)))),
 (none, (.v (.bin 29 .eql false (.t 28) (.c (.int .i64 0))))),
 (none, (.v (.mov 30 (.t 29)))),
 ((some (30, true)), (.v (.fld 31 2 (.t 1)))),
 ((some (30, true)), (.v (.load 32 false 1 (.t 31)))),
 ((some (30, true)), (.p (.slen 33 (.t 32)))),
 ((some (30, true)), (.v (.bin 34 .leq false (.t 33) (.c (.int .i64 40))))),
 (none, (.v (.pick 35 (.t 30) (.t 34) (.c (.bool false))))),
 (none, (.v (.mov 2 (.t 35))))])
 .ret)
 (.seq (.ops [(none, (.v (.bin 37 .eql false (.t 4) (.c (.int .i64 3))))),
 (none, (.v (.mov 36 (.t 37))))])
 (.cond 36
 (.seq (.ops [(none, (.v (.fld 38 1 (.t 1)))),
 (none, (.v (.load 39 false 1 (.t 38)))),
 (none, (.v (.bin 40 .andNot false (.t 39) (.c (.int .i64 1))))),
 (none, (.v (.bin 41 .eql false (.t 40) (.c (.int .i64 0))))),
 (none, (.v (.mov 42 (.t 41)))),
 ((some (42, true)), (.v (.fld 43 2 (.t 1)))),
 ((some (42, true)), (.v (.load 44 false 1 (.t 43)))),
 ((some (42, true)), (.v (.bin 45 .eql false (.t 44) (.c (.str ⟨#[]⟩))))),
 (none, (.v (.pick 46 (.t 42) (.t 45) (.c (.bool false))))),
 (none, (.v (.mov 2 (.t 46))))])
 .ret)
 .skip))))))))))
 (.seq (.ops [(none, (.v (.mov 2 (.c (.bool false)))))])
 .ret)))
theorem ok48 : FnOk E 48 47 [.tmp 2] mc48 := .of func48 (by kernel_rfl) (by kernel_rfl) (by kernel_rfl) (by kernel_rfl) (by kernel_rfl)
/-- alum/alumref19.Right -/
def mc58 : MC :=
 (.seq (.ops [(none, (.e (.box 1 (.t 0)))),
 (none, (.v (.mov 2 (.c (.bool false)))))])
 (.seq (.seq (.ops [(none, (.v (.fld 3 0 (.t 1)))),
 (none, (.v (.load 4 false 1 (.t 3))))])
 (.block 0 (.seq (.ops [(none, (.v (.bin 6 .eql false (.t 4) (.c (.int .i64 0))))),
 (none, (.v (.mov 5 (.t 6))))])
 (.cond 5
 (.seq (.ops [(none, (.v (.fld 7 1 (.t 1)))),
 (none, (.v (.load 8 false 1 (.t 7)))),
 (none, (.v (.bin 9 .eql false (.t 8) (.c (.int .i64 0))))),
 (none, (.v (.mov 10 (.t 9)))),
 ((some (10, true)), (.v (.fld 11 2 (.t 1)))),
 ((some (10, true)), (.v (.load 12 false 1 (.t 11)))),
 ((some (10, true)), (.v (.bin 13 .eql false (.t 12) (.c (.str ⟨#[]⟩))))),
 (none, (.v (.pick 14 (.t 10) (.t 13) (.c (.bool false))))),
 (none, (.v (.mov 2 (.t 14))))])
 .ret)
 (.seq (.ops [(none, (.v (.bin 16 .eql false (.t 4) (.c (.int .i64 1))))),
 (none, (.v (.mov 15 (.t 16))))])
 (.cond 15
 (.seq (.ops [(none, (.v (.fld 17 1 (.t 1)))),
 (none, (.v (.load 18 false 1 (.t 17)))),
 (none, (.v (.bin 19 .geq false (.t 18) (.c (.int .i64 (-549755813888)))))),
 (none, (.v (.mov 20 (.t 19)))),
 ((some (20, true)), (.v (.fld 21 1 (.t 1)))),
 ((some (20, true)), (.v (.load 22 false 1 (.t 21)))),
 ((some (20, true)), (.v (.bin 23 .leq false (.t 22) (.c (.int .i64 549755813887))))),
 (none, (.v (.pick 24 (.t 20) (.t 23) (.c (.bool false))))),
 (none, (.v (.mov 25 (.t 24)))),
 ((some (25, true)), (.v (.fld 26 2 (.t 1)))),
 ((some (25, true)), (.v (.load 27 false 1 (.t 26)))),
 ((some (25, true)), (.v (.bin 28 .eql false (.t 27) (.c (.str ⟨#[]⟩))))),
 (none, (.v (.pick 29 (.t 25) (.t 28) (.c (.bool false))))),
 (none, (.v (.mov 2 (.t 29))))])
 .ret)
 (.seq (.ops [(none, (.v (.bin 31 .eql false (.t 4) (.c (.int .i64 2))))),
 (none, (.v (.mov 30 (.t 31))))])
 (.cond 30
 (.seq (.ops [(none, (.v (.fld 32 1 (.t 1)))),
 (none, (.v (.load 33 false 1 (.t 32)))),
 (none, (.v (.bin 34 .eql false (.t 33) (.c (.int .i64 0))))),
 (none, (.v (.mov 35 (.t 34)))),
 ((some (35, true)), (.v (.fld 36 2 (.t 1)))),
 ((some (35, true)), (.v (.load 37 false 1 (.t 36)))),
 ((some (35, true)), (.p (.slen 38 (.t 37)))),
 ((some (35, true)), (.v (.bin 39 .leq false (.t 38) (.c (.int .i64 40))))),
 (none, (.v (.pick 40 (.t 35) (.t 39) (.c (.bool false))))),
 (none, (.v (.mov 2 (.t 40))))])
 .ret)
 (.seq (.ops [(none, (.v (.bin 42 .eql false (.t 4) (.c (.int .i64 3))))),
 (none, (.v (.mov 41 (.t 42))))])
 (.cond 41
 (.seq (.ops [(none, (.v (.fld 43 1 (.t 1)))),
 (none, (.v (.load 44 false 1 (.t 43)))),
 (none, (.v (.bin 45 .eql false (.t 44) (.c (.int .i64 0))))),
 (none, (.v (.mov 46 (.t 45)))),
 ((some (46, false)), (.v (.fld 47 1 (.t 1)))),
 ((some (46, false)), (.v (.load 48 false 1 (.t 47)))),
 ((some (46, false)), (.v (.bin 49 .eql false (.t 48) (.c (.int .i64 1))))),
 (none, (.v (.pick 50 (.t 46) (.c (.bool true)) (.t 49)))),
 (none, (.v (.mov 51 (.t 50)))),
 ((some (51, true)), (.v (.fld 52 2 (.t 1)))),
 ((some (51, true)), (.v (.load 53 false 1 (.t 52)))),
 ((some (51, true)), (.v (.bin 54 .eql false (.t 53) (.c (.str ⟨#[]⟩))))),
 (none, (.v (.pick 55 (.t 51) (.t 54) (.c (.bool false))))),
 (none, (.v (.mov 2 (.t 55))))])
 .ret)
 .skip))))))))))
 (.seq (.ops [(none, (.v (.mov 2 (.c (.bool false)))))])
 .ret)))
theorem ok58 : FnOk E 58 56 [.tmp 2] mc58 := .of func58 (by kernel_rfl) (by kernel_rfl) (by kernel_rfl) (by kernel_rfl) (by kernel_rfl)
end Go.Proofs.Try
namespace Go.Proofs.Try
open Go.Al
set_option linter.unusedVariables false
set_option linter.unusedSimpArgs false
set_option maxRecDepth 20000

theorem land_even (m : Nat) (h : m < 2 ^ 64) : m &&& 18446744073709551614 = 2 * (m / 2) := by
  apply Nat.eq_of_testBit_eq
  intro i
  rw [Nat.testBit_and]
  cases i with
  | zero => simp
  | succ i =>
    rw [Nat.testBit_succ, Nat.testBit_succ, Nat.testBit_succ, show (18446744073709551614 : Nat) / 2 = 2 ^ 63 - 1 by decide, Nat.testBit_two_pow_sub_one, show 2 * (m / 2) / 2 = m / 2 by omega]
    by_cases hi : i < 63
    · simp [hi]
    · simp only [hi, decide_false, Bool.and_false]
      exact (Nat.testBit_lt_two_pow (Nat.lt_of_lt_of_le (show m / 2 < 2 ^ 63 by omega) (Nat.pow_le_pow_right (by omega) (by omega)))).symm

def inI (n : Int) : Prop := -9223372036854775808 ≤ n ∧ n ≤ 9223372036854775807
theorem andNot1 {n : Int} (h : inI n) : (IntKind.i64.wrap ↑((n % 2 ^ IntKind.i64.bits).toNat &&& 2 ^ IntKind.i64.bits - 1 - 1 % 2 ^ IntKind.i64.bits) = 0) ↔ (n = 0 ∨ n = 1) := by
  obtain ⟨h1, h2⟩ := h
  rw [show IntKind.i64.bits = 64 from rfl, show (2 ^ 64 - 1 - 1 % 2 ^ 64 : Nat) = 18446744073709551614 by decide, land_even _ (by omega), IntKind.wrap_i64]
  omega

theorem c58 (v : VL) : ACalls E.P 58 [v.av] [] (fun r H => r = .bool (decide v.Right) ∧ H = []) := by
  obtain ⟨k, n, s⟩ := v
  refine ok58.acalls hE hm (by simp) fun N hN => ?_
  unfold mc58
  simp only [lA, ptrCells, ptrAdd, isNil, readsV, readsP, isCall, wrote, srcOf, seval, VL.av]
  repeat' (first
   | (with_reducible apply St.o; constructor) <;> intro _
   | with_reducible first | refine LenR_i fun _ => ?_ | refine And.intro (by omega) ?_ | (apply Sp.o; constructor) | refine mkl_own ?_ | refine frz0_i ?_
   | ((with_reducible refine keep0_i ?_); simp only [lP, seval])
   | simp (maxSteps := 1000000) (disch := omega) only [lE, ptrCells, ptrAdd, isNil, readsV, readsP, isCall, wrote, srcOf, seval, strA])
  all_goals (simp only [AV.bool.injEq, VL.Right]; try simp_all)
  all_goals first | omega | (intros; omega)
theorem c48 (v : VL) (hv : inI v.n) : ACalls E.P 48 [v.av] [] (fun r H => r = .bool (decide v.Right) ∧ H = []) := by
  obtain ⟨k, n, s⟩ := v
  refine ok48.acalls hE hm (by simp) fun N hN => ?_
  unfold mc48
  simp only [lA, ptrCells, ptrAdd, isNil, readsV, readsP, isCall, wrote, srcOf, seval, VL.av]
  repeat' (first
   | (with_reducible apply St.o; constructor) <;> intro _
   | with_reducible first | refine LenR_i fun _ => ?_ | refine And.intro (by omega) ?_ | (apply Sp.o; constructor) | refine mkl_own ?_ | refine frz0_i ?_
   | ((with_reducible refine keep0_i ?_); simp only [lP, seval])
   | simp (maxSteps := 1000000) (disch := omega) only [lE, ptrCells, ptrAdd, isNil, readsV, readsP, isCall, wrote, srcOf, seval, strA])
  all_goals (simp only [AV.bool.injEq, VL.Right]; try simp_all)
  all_goals first | omega | (intros; omega) | (simp only [andNot1 hv] at *; simp_all)
end Go.Proofs.Try

/-
  A part of the proof: see the text of the law.
-/
import Derived.Test.YtjiijjfpmaligaaDoorCas
import Derived.Test.YtjiijjfpmaligaaDoorCao
import Derived.Test.YtjiijjfpmaligaaDoorCaw
import Derived.Test.YtjiijjfpmaligaaDoorCal
set_option linter.unusedSimpArgs false
set_option linter.unusedVariables false
namespace Go.Proofs.Try
open Go.Proofs.Tryd
open Go.Al
set_option maxRecDepth 100000
/-- alum/alumref36.RightRange -/
def mc22 : MC :=
 (.seq (.ops [(none, (.e (.box 1 (.t 0)))),
 (none, (.v (.mov 2 (.c (.bool false)))))])
 (.seq (.ops [(none, (.v (.load 7 true 11 (.t 1)))),
 (none, (.e (.alloc 3 [(.bool false), (.bool false), (.bool false), (.int .i64 0), (.int .i64 0), (.str ⟨#[]⟩), (.int .i64 0), (.int .i64 0), (.str ⟨#[]⟩), (.bool false), (.bool false)]))),
 (none, (.e (.store 11 true (.t 3) (.t 7))))])
 (.seq (.ops [(none, (.v (.fld 8 0 (.t 3)))),
 (none, (.e (.store 1 false (.t 8) (.c (.bool false)))))])
 (.seq (.ops [(none, (.v (.fld 9 1 (.t 3)))),
 (none, (.e (.store 1 false (.t 9) (.c (.bool false)))))])
 (.seq (.ops [(none, (.v (.fld 10 2 (.t 3)))),
 (none, (.e (.store 1 false (.t 10) (.c (.bool false)))))])
 (.seq (.seq (.ops [(none, (.v (.fld 11 0 (.t 1)))),
 (none, (.v (.load 12 false 1 (.t 11)))),
 (none, (.v (.mov 13 (.t 12)))),
 ((some (13, false)), (.v (.fld 14 1 (.t 1)))),
 ((some (13, false)), (.v (.load 15 false 1 (.t 14)))),
 (none, (.v (.pick 16 (.t 13) (.c (.bool true)) (.t 15)))),
 (none, (.v (.mov 17 (.t 16)))),
 ((some (17, false)), (.v (.fld 18 2 (.t 1)))),
 ((some (17, false)), (.v (.load 19 false 1 (.t 18)))),
 (none, (.v (.pick 20 (.t 17) (.c (.bool true)) (.t 19))))])
 (.cond 20
 (.seq (.ops [(none, (.v (.fld 21 0 (.t 1)))),
 (none, (.v (.load 22 false 1 (.t 21)))),
 (none, (.v (.fld 23 1 (.t 1)))),
 (none, (.v (.load 24 false 1 (.t 23)))),
 (none, (.v (.bin 25 .neq true (.t 22) (.t 24)))),
 (none, (.v (.mov 26 (.t 25)))),
 ((some (26, true)), (.v (.fld 27 2 (.t 1)))),
 ((some (26, true)), (.v (.load 28 false 1 (.t 27)))),
 ((some (26, true)), (.v (.not 29 (.t 28)))),
 (none, (.v (.pick 30 (.t 26) (.t 29) (.c (.bool false))))),
 (none, (.v (.mov 31 (.t 30)))),
 ((some (31, false)), (.v (.fld 32 0 (.t 1)))),
 ((some (31, false)), (.v (.load 33 false 1 (.t 32)))),
 ((some (31, false)), (.v (.not 34 (.t 33)))),
 ((some (31, false)), (.v (.mov 35 (.t 34)))),
 ((some (35, true)), (.v (.fld 36 1 (.t 1)))),
 ((some (35, true)), (.v (.load 37 false 1 (.t 36)))),
 ((some (35, true)), (.v (.not 38 (.t 37)))),
 ((some (31, false)), (.v (.pick 39 (.t 35) (.t 38) (.c (.bool false))))),
 (none, (.v (.pick 40 (.t 31) (.c (.bool true)) (.t 39)))),
 (none, (.v (.mov 4 (.t 40))))])
 (.seq (.ops [(none, (.v (.mov 41 (.t 4)))),
 (none, (.v (.mov 42 (.t 41)))),
 ((some (42, true)), (.v (.load 43 true 11 (.t 3)))),
 ((some (42, true)), (.v (.build 44 [(.bool false), (.bool false), (.bool false), (.int .i64 0), (.int .i64 0), (.str ⟨#[]⟩), (.int .i64 0), (.int .i64 0), (.str ⟨#[]⟩), (.bool false), (.bool false)] []))),
 ((some (42, true)), (.v (.eq 45 false (.agg [(0, false, 1, .bool), (1, false, 1, .bool), (2, false, 1, .bool), (3, true, 3, (.agg [(0, false, 1, .int), (1, false, 1, .int), (2, false, 1, .str)])), (6, true, 3, (.agg [(0, false, 1, .int), (1, false, 1, .int), (2, false, 1, .str)])), (9, false, 1, .bool), (10, false, 1, .bool)]) (.t 43) (.t 44)))),
 (none, (.v (.pick 46 (.t 42) (.t 45) (.c (.bool false))))),
 (none, (.v (.mov 2 (.t 46))))])
 .ret))
 .skip))
 (.seq (.ops [(none, (.v (.fld 47 3 (.t 1)))),
 (none, (.v (.load 48 true 3 (.t 47)))),
 (none, (.e (.call (some 49) 21 [(.t 48)]))),
 (none, (.v (.mov 5 (.t 49))))])
 (.seq (.ops [(none, (.v (.fld 50 6 (.t 1)))),
 (none, (.v (.load 51 true 3 (.t 50)))),
 (none, (.e (.call (some 52) 21 [(.t 51)]))),
 (none, (.v (.mov 6 (.t 52))))])
 (.seq (.seq (.ops [(none, (.v (.mov 53 (.t 5)))),
 (none, (.v (.not 54 (.t 53)))),
 (none, (.v (.mov 55 (.t 54)))),
 ((some (55, false)), (.v (.mov 56 (.t 6)))),
 ((some (55, false)), (.v (.not 57 (.t 56)))),
 (none, (.v (.pick 58 (.t 55) (.c (.bool true)) (.t 57)))),
 (none, (.v (.mov 59 (.t 58)))),
 ((some (59, false)), (.v (.fld 60 9 (.t 1)))),
 ((some (59, false)), (.v (.load 61 false 1 (.t 60)))),
 ((some (59, false)), (.v (.mov 62 (.t 61)))),
 ((some (62, true)), (.v (.fld 63 3 (.t 1)))),
 ((some (62, true)), (.v (.fld 64 0 (.t 63)))),
 ((some (62, true)), (.v (.load 65 false 1 (.t 64)))),
 ((some (62, true)), (.v (.bin 66 .eql false (.t 65) (.c (.int .i64 0))))),
 ((some (59, false)), (.v (.pick 67 (.t 62) (.t 66) (.c (.bool false))))),
 (none, (.v (.pick 68 (.t 59) (.c (.bool true)) (.t 67)))),
 (none, (.v (.mov 69 (.t 68)))),
 ((some (69, false)), (.v (.fld 70 10 (.t 1)))),
 ((some (69, false)), (.v (.load 71 false 1 (.t 70)))),
 ((some (69, false)), (.v (.mov 72 (.t 71)))),
 ((some (72, true)), (.v (.fld 73 6 (.t 1)))),
 ((some (72, true)), (.v (.fld 74 0 (.t 73)))),
 ((some (72, true)), (.v (.load 75 false 1 (.t 74)))),
 ((some (72, true)), (.v (.bin 76 .eql false (.t 75) (.c (.int .i64 0))))),
 ((some (69, false)), (.v (.pick 77 (.t 72) (.t 76) (.c (.bool false))))),
 (none, (.v (.pick 78 (.t 69) (.c (.bool true)) (.t 77))))])
 (.cond 78
 (.seq (.ops [(none, (.v (.mov 2 (.c (.bool false)))))])
 .ret)
 .skip))
 (.seq (.seq (.ops [(none, (.v (.fld 79 3 (.t 1)))),
 (none, (.v (.fld 80 0 (.t 79)))),
 (none, (.v (.load 81 false 1 (.t 80)))),
 (none, (.v (.bin 82 .neq false (.t 81) (.c (.int .i64 0))))),
 (none, (.v (.mov 83 (.t 82)))),
 ((some (83, true)), (.v (.fld 84 6 (.t 1)))),
 ((some (83, true)), (.v (.fld 85 0 (.t 84)))),
 ((some (83, true)), (.v (.load 86 false 1 (.t 85)))),
 ((some (83, true)), (.v (.bin 87 .neq false (.t 86) (.c (.int .i64 0))))),
 (none, (.v (.pick 88 (.t 83) (.t 87) (.c (.bool false))))),
 (none, (.v (.mov 89 (.t 88)))),
 ((some (89, true)), (.v (.fld 90 3 (.t 1)))),
 ((some (89, true)), (.v (.fld 91 0 (.t 90)))),
 ((some (89, true)), (.v (.load 92 false 1 (.t 91)))),
 ((some (89, true)), (.v (.fld 93 6 (.t 1)))),
 ((some (89, true)), (.v (.fld 94 0 (.t 93)))),
 ((some (89, true)), (.v (.load 95 false 1 (.t 94)))),
 ((some (89, true)), (.v (.bin 96 .neq false (.t 92) (.t 95)))),
 (none, (.v (.pick 97 (.t 89) (.t 96) (.c (.bool false)))))])
 (.cond 97
 (.seq (.ops [(none, (.v (.mov 2 (.c (.bool false)))))])
 .ret)
 .skip))
 (.seq (.ops [(none, (.v (.load 98 true 11 (.t 1)))),
 (none, (.e (.call (some 99) 65 [(.t 98)]))),
 (none, (.v (.not 100 (.t 99)))),
 (none, (.v (.mov 2 (.t 100))))])
 .ret)))))))))))
theorem ok22 : FnOk E 22 101 [.tmp 2] mc22 := .of func22 (by kernel_rfl) (by kernel_rfl) (by kernel_rfl) (by kernel_rfl) (by kernel_rfl)
/-- alum/alumref36.OfKind -/
def mc23 : MC :=
 (.seq (.ops [(none, (.e (.box 2 (.t 0)))),
 (none, (.v (.mov 4 (.c (.bool false)))))])
 (.seq (.ops [(none, (.v (.fld 5 3 (.t 2)))),
 (none, (.v (.fld 6 0 (.t 5)))),
 (none, (.v (.load 7 false 1 (.t 6)))),
 (none, (.v (.mov 8 (.t 1)))),
 (none, (.v (.bin 9 .eql false (.t 7) (.t 8)))),
 (none, (.v (.mov 10 (.t 9)))),
 ((some (10, false)), (.v (.fld 11 3 (.t 2)))),
 ((some (10, false)), (.v (.fld 12 0 (.t 11)))),
 ((some (10, false)), (.v (.load 13 false 1 (.t 12)))),
 ((some (10, false)), (.v (.bin 14 .eql false (.t 13) (.c (.int .i64 0))))),
 (none, (.v (.pick 15 (.t 10) (.c (.bool true)) (.t 14)))),
 (none, (.v (.mov 16 (.t 15)))),
 ((some (16, true)), (.v (.fld 17 6 (.t 2)))),
 ((some (16, true)), (.v (.fld 18 0 (.t 17)))),
 ((some (16, true)), (.v (.load 19 false 1 (.t 18)))),
 ((some (16, true)), (.v (.mov 20 (.t 1)))),
 ((some (16, true)), (.v (.bin 21 .eql false (.t 19) (.t 20)))),
 ((some (16, true)), (.v (.mov 22 (.t 21)))),
 ((some (22, false)), (.v (.fld 23 6 (.t 2)))),
 ((some (22, false)), (.v (.fld 24 0 (.t 23)))),
 ((some (22, false)), (.v (.load 25 false 1 (.t 24)))),
 ((some (22, false)), (.v (.bin 26 .eql false (.t 25) (.c (.int .i64 0))))),
 ((some (16, true)), (.v (.pick 27 (.t 22) (.c (.bool true)) (.t 26)))),
 (none, (.v (.pick 28 (.t 16) (.t 27) (.c (.bool false))))),
 (none, (.v (.mov 4 (.t 28))))])
 .ret))
theorem ok23 : FnOk E 23 29 [.tmp 4] mc23 := .of func23 (by kernel_rfl) (by kernel_rfl) (by kernel_rfl) (by kernel_rfl) (by kernel_rfl)
/-- alum/alumref36.void -/
def mc65 : MC :=
 (.seq (.ops [(none, (.e (.box 1 (.t 0)))),
 (none, (.v (.mov 2 (.c (.bool false)))))])
 (.seq (.seq (.ops [(none, (.v (.fld 4 3 (.t 1)))),
 (none, (.v (.fld 5 0 (.t 4)))),
 (none, (.v (.load 6 false 1 (.t 5)))),
 (none, (.v (.bin 7 .eql false (.t 6) (.c (.int .i64 0))))),
 (none, (.v (.mov 8 (.t 7)))),
 ((some (8, false)), (.v (.fld 9 6 (.t 1)))),
 ((some (8, false)), (.v (.fld 10 0 (.t 9)))),
 ((some (8, false)), (.v (.load 11 false 1 (.t 10)))),
 ((some (8, false)), (.v (.bin 12 .eql false (.t 11) (.c (.int .i64 0))))),
 (none, (.v (.pick 13 (.t 8) (.c (.bool true)) (.t 12))))])
 (.cond 13
 (.seq (.ops [(none, (.v (.mov 2 (.c (.bool false)))))])
 .ret)
 .skip))
 (.seq (.ops [(none, (.v (.fld 14 3 (.t 1)))),
 (none, (.v (.load 15 true 3 (.t 14)))),
 (none, (.v (.fld 16 6 (.t 1)))),
 (none, (.v (.load 17 true 3 (.t 16)))),
 (none, (.e (.call (some 18) 84 [(.t 15), (.t 17)]))),
 (none, (.v (.mov 3 (.t 18))))])
 (.seq (.ops [(none, (.v (.mov 19 (.t 3)))),
 (none, (.v (.bin 20 .gtr false (.t 19) (.c (.int .i64 0))))),
 (none, (.v (.mov 21 (.t 20)))),
 ((some (21, false)), (.v (.mov 22 (.t 3)))),
 ((some (21, false)), (.v (.bin 23 .eql false (.t 22) (.c (.int .i64 0))))),
 ((some (21, false)), (.v (.mov 24 (.t 23)))),
 ((some (24, true)), (.v (.fld 25 9 (.t 1)))),
 ((some (24, true)), (.v (.load 26 false 1 (.t 25)))),
 ((some (24, true)), (.v (.mov 27 (.t 26)))),
 ((some (27, true)), (.v (.fld 28 10 (.t 1)))),
 ((some (27, true)), (.v (.load 29 false 1 (.t 28)))),
 ((some (24, true)), (.v (.pick 30 (.t 27) (.t 29) (.c (.bool false))))),
 ((some (24, true)), (.v (.not 31 (.t 30)))),
 ((some (21, false)), (.v (.pick 32 (.t 24) (.t 31) (.c (.bool false))))),
 (none, (.v (.pick 33 (.t 21) (.c (.bool true)) (.t 32)))),
 (none, (.v (.mov 2 (.t 33))))])
 .ret))))
theorem ok65 : FnOk E 65 34 [.tmp 2] mc65 := .of func65 (by kernel_rfl) (by kernel_rfl) (by kernel_rfl) (by kernel_rfl) (by kernel_rfl)
end Go.Proofs.Try
namespace Go.Proofs.Try
open Go.Al
set_option linter.unusedVariables false
set_option linter.unusedSimpArgs false
set_option maxRecDepth 20000
set_option maxHeartbeats 8000000

/-! ### ranges that are right -/
def RG.void19 (x : RG) : Bool := if x.lo.k = 0 ∨ x.hi.k = 0 then false else decide (0 < x.lo.cmp19 x.hi) || (decide (x.lo.cmp19 x.hi = 0) && !(x.li && x.ri))
theorem c65 (x : RG) : ACalls E.P 65 [x.av] [] (fun r H => r = .bool x.void19 ∧ H = []) := by
  obtain ⟨e, nl, all, lo, hi, li, ri⟩ := x
  have h84 : ACalls E.P 84 [.agg lo.cs, .agg hi.cs] [] (fun r H => r = .int .i64 (lo.cmp19 hi) ∧ H = []) := c84 lo hi
  have key : ∀ b, b = RG.void19 ⟨e, nl, all, lo, hi, li, ri⟩ → (AV.bool b = AV.bool (RG.void19 ⟨e, nl, all, lo, hi, li, ri⟩)) := fun b h => by rw [h]
  simp only [rg_av]
  refine ok65.acalls hE hm (by simp) fun N hN => ?_
  unfold mc65
  simp only [lA, ptrCells, ptrAdd, isNil, readsV, readsP, isCall, wrote, srcOf, seval]
  repeat' (first
   | (with_reducible apply St.o; constructor) <;> intro _
   | with_reducible first | refine LenR_i fun _ => ?_ | refine And.intro (by omega) ?_ | (apply Sp.o; constructor) | refine frz0_i ?_
   | ((with_reducible apply Sc.o true; constructor); simp only [lP, seval, ti45]; refine ⟨_, h84, ?_⟩; rintro _ _ ⟨rfl, rfl⟩; simp only [lA, lP, ptrCells, ptrAdd, isNil, readsV, readsP, isCall, wrote, srcOf, seval, ti45])
   | ((with_reducible refine keep0_i ?_); simp only [lP, seval])
   | simp (maxSteps := 1000000) (disch := omega) only [lE, ptrCells, ptrAdd, isNil, readsV, readsP, isCall, wrote, srcOf, seval, ti45])
  all_goals clear h84
  all_goals
    apply key
    clear key
    simp only [RG.void19]
    simp [*]
/-- Of a kind. -/
def RG.ofK (x : RG) (k : Int) : Bool := decide (x.lo.k = k ∨ x.lo.k = 0) && decide (x.hi.k = k ∨ x.hi.k = 0)
theorem c23 (x : RG) (k : Int) : ACalls E.P 23 [x.av, .int .i64 k] [] (fun r H => r = .bool (x.ofK k) ∧ H = []) := by
  obtain ⟨e, nl, all, lo, hi, li, ri⟩ := x
  have key : ∀ b, b = RG.ofK ⟨e, nl, all, lo, hi, li, ri⟩ k → (AV.bool b = AV.bool (RG.ofK ⟨e, nl, all, lo, hi, li, ri⟩ k)) := fun b h => by rw [h]
  simp only [rg_av]
  refine ok23.acalls hE hm (by simp) fun N hN => ?_
  unfold mc23
  simp only [lA, ptrCells, ptrAdd, isNil, readsV, readsP, isCall, wrote, srcOf, seval]
  repeat' (first
   | (with_reducible apply St.o; constructor) <;> intro _
   | with_reducible first | refine LenR_i fun _ => ?_ | refine And.intro (by omega) ?_ | (apply Sp.o; constructor) | refine frz0_i ?_
   | ((with_reducible refine keep0_i ?_); simp only [lP, seval])
   | simp (maxSteps := 1000000) (disch := omega) only [lE, ptrCells, ptrAdd, isNil, readsV, readsP, isCall, wrote, srcOf, seval, ti45])
  all_goals
    apply key
    clear key
    simp only [RG.ofK]
    simp [*]
def RG.rt (x : RG) : Bool :=
  if (x.e || x.nl || x.all) = true then ((x.e != x.nl) && !x.all || (!x.e && !x.nl)) && decide (x.lo = VL.null ∧ x.hi = VL.null ∧ x.li = false ∧ x.ri = false)
  else decide x.lo.Right && decide x.hi.Right && !(x.li && decide (x.lo.k = 0)) && !(x.ri && decide (x.hi.k = 0)) && !(decide (x.lo.k ≠ 0) && decide (x.hi.k ≠ 0) && decide (x.lo.k ≠ x.hi.k)) && !x.void19
theorem null_iff (v : VL) : v = VL.null ↔ v.k = 0 ∧ v.n = 0 ∧ v.s = ⟨#[]⟩ := by
  obtain ⟨k, n, s⟩ := v
  simp [VL.null]
theorem c22 (x : RG) : ACalls E.P 22 [x.av] [] (fun r H => r = .bool x.rt ∧ H = []) := by
  have h65 := c65 x
  obtain ⟨e, nl, all, lo, hi, li, ri⟩ := x
  have h21 : ∀ v : VL, ACalls E.P 21 [.agg v.cs] [] (fun r H => r = .bool (decide v.Right) ∧ H = []) := c21
  have h21a := h21 lo
  have h21b := h21 hi
  have key : ∀ b, b = RG.rt ⟨e, nl, all, lo, hi, li, ri⟩ → (AV.bool b = AV.bool (RG.rt ⟨e, nl, all, lo, hi, li, ri⟩)) := fun b h => by rw [h]
  simp only [rg_av] at *
  refine ok22.acalls hE hm (by simp) fun N hN => ?_
  unfold mc22
  simp only [lA, ptrCells, ptrAdd, isNil, readsV, readsP, isCall, wrote, srcOf, seval]
  cases e <;> cases nl <;> cases all
  all_goals
    repeat' (first
     | (with_reducible apply St.o; constructor) <;> intro _
     | with_reducible first | refine LenR_i fun _ => ?_ | refine And.intro (by omega) ?_ | (apply Sp.o; constructor) | refine frz0_i ?_
     | ((with_reducible apply Sc.o true; constructor); simp only [lP, seval, ti45, strA, flatEq]; (first | refine ⟨_, h21a, ?_⟩ | refine ⟨_, h21b, ?_⟩ | refine ⟨_, h65, ?_⟩); rintro _ _ ⟨rfl, rfl⟩; simp only [lA, lP, ptrCells, ptrAdd, isNil, readsV, readsP, isCall, wrote, srcOf, seval, ti45, strA, flatEq])
     | ((with_reducible refine keep0_i ?_); simp only [lP, seval])
     | simp (maxSteps := 1000000) (disch := omega) only [lE, ptrCells, ptrAdd, isNil, readsV, readsP, isCall, wrote, srcOf, seval, ti45, strA, flatEq])
  all_goals clear h65 h21 h21a h21b
  all_goals
    apply key
    clear key
    simp only [RG.rt, null_iff]
    first
      | (simp_all; done)
      | (simp [*]; done)
      | trace_state
end Go.Proofs.Try

namespace Go.Proofs.Try
open Go.Al
set_option linter.unusedVariables false
set_option linter.unusedSimpArgs false
set_option maxRecDepth 20000

/-! ### the order of values -/
structure IsCmp {α : Type} (f : α → α → Int) : Prop where
  anti : ∀ a b, f b a = - f a b
  eq : ∀ a b, f a b = 0 → a = b
  trans : ∀ a b c, f a b ≤ 0 → f b c ≤ 0 → f a c ≤ 0
theorem IsCmp.self {α : Type} {f : α → α → Int} (h : IsCmp f) (a : α) : f a a = 0 := by have := h.anti a a; omega
theorem sgn_cmp : IsCmp sgn := ⟨fun a b => by unfold sgn; (repeat' split) <;> omega, fun a b h => by revert h; unfold sgn; (repeat' split) <;> omega, fun a b c h1 h2 => by revert h1 h2; unfold sgn; (repeat' split) <;> omega⟩
theorem bytes_cmp : IsCmp Lib.compareBytes where
  anti := by
    intro a
    induction a with
    | nil => intro b; cases b <;> simp [Lib.compareBytes]
    | cons x a ih =>
      intro b
      cases b with
      | nil => simp [Lib.compareBytes]
      | cons y b =>
        simp only [Lib.compareBytes]
        have h1 : x < y ↔ x.toNat < y.toNat := UInt8.lt_iff_toNat_lt
        have h2 : y < x ↔ y.toNat < x.toNat := UInt8.lt_iff_toNat_lt
        have := ih b
        simp only [h1, h2]
        (repeat' split) <;> omega
  eq := by
    intro a
    induction a with
    | nil => intro b; cases b <;> simp [Lib.compareBytes]
    | cons x a ih =>
      intro b
      cases b with
      | nil => simp [Lib.compareBytes]
      | cons y b =>
        simp only [Lib.compareBytes]
        have h1 : x < y ↔ x.toNat < y.toNat := UInt8.lt_iff_toNat_lt
        have h2 : y < x ↔ y.toNat < x.toNat := UInt8.lt_iff_toNat_lt
        simp only [h1, h2]
        intro h
        split at h
        · omega
        · split at h
          · omega
          · have hxy : x = y := UInt8.toNat_inj.1 (by omega)
            rw [hxy, ih b h]
  trans := by
    intro a
    induction a with
    | nil => intro b c _ _; cases c <;> simp [Lib.compareBytes]
    | cons x a ih =>
      intro b c h1 h2
      cases b with
      | nil => simp [Lib.compareBytes] at h1
      | cons y b =>
        cases c with
        | nil => simp [Lib.compareBytes] at h2
        | cons z c =>
          simp only [Lib.compareBytes] at h1 h2 ⊢
          simp only [UInt8.lt_iff_toNat_lt] at h1 h2 ⊢
          have := ih b c
          (repeat' split) <;> first | omega | (split at h1 <;> (try split at h1) <;> split at h2 <;> (try split at h2) <;> omega)
theorem lex_cmp {α β : Type} {f : α → α → Int} {g : β → β → Int} (hf : IsCmp f) (hg : IsCmp g) : IsCmp (fun a b : α × β => if f a.1 b.1 = 0 then g a.2 b.2 else f a.1 b.1) where
  anti := by
    intro a b
    have h1 := hf.anti a.1 b.1
    have h2 := hg.anti a.2 b.2
    (repeat' split) <;> omega
  eq := by
    intro a b h
    split at h
    · rename_i h1
      exact Prod.ext (hf.eq _ _ h1) (hg.eq _ _ h)
    · contradiction
  trans := by
    intro a b c h1 h2
    have t := hf.trans a.1 b.1 c.1
    have u := hg.trans a.2 b.2 c.2
    show (if f a.1 c.1 = 0 then g a.2 c.2 else f a.1 c.1) ≤ 0
    by_cases e1 : f a.1 b.1 = 0
    · by_cases e2 : f b.1 c.1 = 0
      · rw [if_pos e1] at h1
        rw [if_pos e2] at h2
        have := hf.eq _ _ e1
        rw [← this] at e2
        rw [if_pos e2]
        exact u h1 h2
      · rw [if_neg e2] at h2
        have := hf.eq _ _ e1
        rw [← this] at e2 h2
        rw [if_neg e2]
        exact h2
    · rw [if_neg e1] at h1
      by_cases e2 : f b.1 c.1 = 0
      · have := hf.eq _ _ e2
        rw [← this, if_neg e1]
        exact h1
      · rw [if_neg e2] at h2
        have t1 := t h1 h2
        have h3 : f a.1 c.1 ≠ 0 := by
          intro h0
          have := hf.eq _ _ h0
          rw [this] at h1 e1
          have := hf.anti c.1 b.1
          omega
        rw [if_neg h3]
        exact t1
theorem VL.ext' {a b : VL} (h1 : a.k = b.k) (h2 : a.n = b.n) (h3 : a.s.data.toList = b.s.data.toList) : a = b := by
  obtain ⟨k, n, ⟨⟨s⟩⟩⟩ := a
  obtain ⟨k', n', ⟨⟨s'⟩⟩⟩ := b
  simp only at h1 h2 h3
  rw [h1, h2, h3]
theorem vl_cmp : IsCmp VL.cmp := by
  have h := lex_cmp sgn_cmp (lex_cmp sgn_cmp bytes_cmp)
  have e : ∀ a b : VL, a.cmp b = (if sgn a.k b.k = 0 then (if sgn a.n b.n = 0 then Lib.compareBytes a.s.data.toList b.s.data.toList else sgn a.n b.n) else sgn a.k b.k) := fun a b => by
    unfold VL.cmp orI orI orI orI
    (repeat' split) <;> omega
  refine ⟨fun a b => ?_, fun a b h0 => ?_, fun a b c h1 h2 => ?_⟩
  · rw [e, e]; exact h.anti (a.k, a.n, a.s.data.toList) (b.k, b.n, b.s.data.toList)
  · rw [e] at h0
    have := h.eq (a.k, a.n, a.s.data.toList) (b.k, b.n, b.s.data.toList) h0
    simp only [Prod.mk.injEq] at this
    exact VL.ext' this.1 this.2.1 this.2.2
  · rw [e] at h1 h2 ⊢
    exact h.trans (a.k, a.n, a.s.data.toList) (b.k, b.n, b.s.data.toList) (c.k, c.n, c.s.data.toList) h1 h2

/-! ### numbers for finitely many values -/
theorem countP_le' {α : Type} {p q : α → Bool} (h : ∀ x, p x = true → q x = true) : ∀ l : List α, l.countP p ≤ l.countP q
  | [] => by simp
  | x :: l => by
    have := countP_le' h l
    rw [List.countP_cons, List.countP_cons]
    by_cases hp : p x = true
    · rw [if_pos hp, if_pos (h x hp)]; omega
    · rw [if_neg hp]; omega
theorem countP_lt' {α : Type} {p q : α → Bool} (h : ∀ x, p x = true → q x = true) {y : α} (hq : q y = true) (hp : p y = false) : ∀ l : List α, y ∈ l → l.countP p < l.countP q
  | [], hm => by simp at hm
  | x :: l, hm => by
    rw [List.countP_cons, List.countP_cons]
    rcases List.mem_cons.1 hm with rfl | hm
    · have := countP_le' h l
      rw [if_pos hq, if_neg (by simp [hp])]; omega
    · have := countP_lt' h hq hp l hm
      by_cases hx : p x = true
      · rw [if_pos hx, if_pos (h x hx)]; omega
      · rw [if_neg hx]; omega
theorem IsCmp.lt_trans {α : Type} {f : α → α → Int} (h : IsCmp f) {a b c : α} (h1 : f a b < 0) (h2 : f b c ≤ 0) : f a c < 0 := by
  have t := h.trans a b c (by omega) h2
  by_cases h0 : f a c = 0
  · have := h.eq _ _ h0
    subst this
    have := h.anti a b
    omega
  · omega
theorem ranks {α : Type} {f : α → α → Int} (h : IsCmp f) (l : List α) : ∃ ρ : α → Int, ∀ x ∈ l, ∀ y ∈ l, (f x y < 0 ↔ ρ x < ρ y) ∧ (f x y = 0 ↔ ρ x = ρ y) ∧ (0 < f x y ↔ ρ y < ρ x) := by
  refine ⟨fun x => (l.countP fun z => decide (f z x < 0) : Nat), ?_⟩
  have lt : ∀ x ∈ l, ∀ y ∈ l, f x y < 0 → (l.countP fun z => decide (f z x < 0)) < (l.countP fun z => decide (f z y < 0)) := by
    intro x hx y hy hxy
    refine countP_lt' (fun z hz => ?_) (y := x) (by simpa using hxy) (by simp [h.self]) l hx
    have hz : f z x < 0 := by simpa using hz
    simpa using h.lt_trans hz (by omega)
  intro x hx y hy
  have a := lt x hx y hy
  have b := lt y hy x hx
  have an := h.anti x y
  have e : f x y = 0 → x = y := h.eq x y
  have s : x = y → f x y = 0 := fun e => by rw [e]; exact h.self y
  clear lt
  generalize hu : l.countP (fun z => decide (f z x < 0)) = u at *
  generalize hv : l.countP (fun z => decide (f z y < 0)) = v at *
  show (f x y < 0 ↔ ((l.countP fun z => decide (f z x < 0) : Nat) : Int) < ((l.countP fun z => decide (f z y < 0) : Nat) : Int)) ∧ (f x y = 0 ↔ ((l.countP fun z => decide (f z x < 0) : Nat) : Int) = ((l.countP fun z => decide (f z y < 0) : Nat) : Int)) ∧ (0 < f x y ↔ ((l.countP fun z => decide (f z y < 0) : Nat) : Int) < ((l.countP fun z => decide (f z x < 0) : Nat) : Int))
  rw [hu, hv]
  by_cases h0 : f x y = 0
  · have := e h0
    subst this
    have huv : u = v := by rw [← hu, ← hv]
    subst huv
    simp [h0]
  · by_cases h1 : f x y < 0
    · have := a h1
      refine ⟨⟨fun _ => by omega, fun _ => h1⟩, ⟨fun h => absurd h h0, fun h => by omega⟩, ⟨fun h => by omega, fun h => by omega⟩⟩
    · have := b (by omega)
      refine ⟨⟨fun h => by omega, fun h => by omega⟩, ⟨fun h => absurd h h0, fun h => by omega⟩, ⟨fun h => by omega, fun h => by omega⟩⟩
end Go.Proofs.Try

namespace Go.Proofs.Try
open Go.Al
set_option linter.unusedVariables false
set_option linter.unusedSimpArgs false
set_option maxRecDepth 20000
set_option maxHeartbeats 16000000

/-! ### the meet of two ranges: what is in both -/
theorem null_of {x : VL} (hx : x.Right) (h0 : x.k = 0) : x = VL.null := by
  rw [null_iff]
  simp only [VL.Right] at hx
  rcases hx with h | h | h | h
  · exact h
  · omega
  · omega
  · omega
theorem null_low {x : VL} (hx : x.Right) (h0 : x.k ≠ 0) : VL.null.cmp x < 0 := by
  have h2 : 0 < x.k := by
    simp only [VL.Right] at hx
    omega
  have h1 : sgn VL.null.k x.k = -1 := by
    have : VL.null.k < x.k := h2
    unfold sgn
    exact if_pos this
  unfold VL.cmp
  rw [h1]
  simp [orI]
def lowB (v x : VL) (i : Bool) : Bool := !(decide (x.k ≠ 0) && (decide (v.k ≠ x.k) || decide (v.cmp x < 0) || (decide (v.cmp x = 0) && !i)))
def highB (v x : VL) (i : Bool) : Bool := !(decide (x.k ≠ 0) && (decide (v.k ≠ x.k) || decide (0 < v.cmp x) || (decide (v.cmp x = 0) && !i)))
theorem has_plain (lo hi v : VL) (li ri : Bool) : RG.has ⟨false, false, false, lo, hi, li, ri⟩ v = (!decide (v.k = 0) && lowB v lo li && highB v hi ri) := by
  unfold RG.has lowB highB
  simp only [Bool.or_self, Bool.false_eq_true, if_false, false_or]
  by_cases h0 : v.k = 0
  · simp [h0]
  · simp only [h0, if_false, decide_false, Bool.not_false, Bool.true_and]
    cases li <;> cases ri <;> (repeat' split) <;> (try simp_all) <;> (try omega)
def lowJ (a b : VL) (i j : Bool) : VL × Bool := (if 0 < b.cmp a then b else a, if 0 < b.cmp a then j else if b.cmp a = 0 then i && j else i)
def highJ (a b : VL) (i j : Bool) : VL × Bool :=
  (if b.k ≠ 0 ∧ (a.k = 0 ∨ b.cmp a < 0) then b else a, if b.k ≠ 0 ∧ (a.k = 0 ∨ b.cmp a < 0) then j else if a.same b = true then i && j else i)
theorem meet2_plain (al ah bl bh : VL) (ali ari bli bri : Bool) : RG.meet2 ⟨false, false, false, al, ah, ali, ari⟩ ⟨false, false, false, bl, bh, bli, bri⟩ = ⟨false, false, false, (lowJ al bl ali bli).1, (highJ ah bh ari bri).1, (lowJ al bl ali bli).2, (highJ ah bh ari bri).2⟩ := rfl
theorem lowJ_comm (a b : VL) (i j : Bool) : lowJ a b i j = lowJ b a j i := by
  have h := vl_cmp.anti a b
  have e := vl_cmp.eq a b
  unfold lowJ
  by_cases h0 : a.cmp b = 0
  · have := e h0
    subst this
    have : a.cmp a = 0 := h0
    simp [this, Bool.and_comm]
  · by_cases h1 : 0 < a.cmp b
    · rw [if_neg (by omega), if_neg (by omega), if_neg (by omega), if_pos h1, if_pos h1]
    · rw [if_pos (by omega), if_pos (by omega), if_neg h1, if_neg h1, if_neg h0]
theorem highJ_comm {a b : VL} (ha : a.Right) (hb : b.Right) (i j : Bool) : highJ a b i j = highJ b a j i := by
  have h := vl_cmp.anti a b
  have e := vl_cmp.eq a b
  by_cases h0 : a = b
  · subst h0
    have := vl_cmp.self a
    have hs : a.same a = true := VL.same_iff.2 rfl
    have hn : ¬ (a.k ≠ 0 ∧ (a.k = 0 ∨ a.cmp a < 0)) := by omega
    simp only [highJ, if_neg hn, if_pos hs, Bool.and_comm]
  · have h1 : ¬ a.cmp b = 0 := fun h => h0 (e h)
    have s1 : ¬ a.same b = true := fun h => h0 (VL.same_iff.1 h)
    have s2 : ¬ b.same a = true := fun h => h0 (VL.same_iff.1 h).symm
    have nn : ¬ (a.k = 0 ∧ b.k = 0) := fun ⟨x, y⟩ => h0 (by rw [null_of ha x, null_of hb y])
    unfold highJ
    by_cases hl : b.k ≠ 0 ∧ (a.k = 0 ∨ b.cmp a < 0)
    · rw [if_pos hl, if_pos hl, if_neg (by omega), if_neg (by omega), if_neg s2]
    · rw [if_neg hl, if_neg hl, if_neg s1]
      by_cases hl2 : a.k ≠ 0 ∧ (b.k = 0 ∨ a.cmp b < 0)
      · rw [if_pos hl2, if_pos hl2]
      · omega
theorem lowJ_in {k : Int} {a b v : VL} {i j : Bool} (ha : a.Right) (hb : b.Right) (hv : v.Right) (ka : a.k = k ∨ a.k = 0) (kb : b.k = k ∨ b.k = 0) : lowB v (lowJ a b i j).1 (lowJ a b i j).2 = (lowB v a i && lowB v b j) := by
  obtain ⟨ρ, hρ⟩ := ranks vl_cmp [a, b, v, VL.null]
  have q1 := hρ b (by simp) a (by simp)
  have v1 := hρ v (by simp) a (by simp)
  have v2 := hρ v (by simp) b (by simp)
  have z1 := hρ VL.null (by simp) a (by simp)
  have z2 := hρ VL.null (by simp) b (by simp)
  have za : a.k = 0 → ρ a = ρ VL.null := fun h => by rw [null_of ha h]
  have zb : b.k = 0 → ρ b = ρ VL.null := fun h => by rw [null_of hb h]
  have na : a.k ≠ 0 → ρ VL.null < ρ a := fun h => z1.1.1 (null_low ha h)
  have nb : b.k ≠ 0 → ρ VL.null < ρ b := fun h => z2.1.1 (null_low hb h)
  clear z1 z2 hρ
  unfold lowJ lowB
  rw [Bool.eq_iff_iff]
  by_cases h1 : 0 < b.cmp a
  · cases i <;> cases j <;> simp only [h1, if_true, Bool.and_eq_true, Bool.not_eq_true', Bool.and_eq_false_iff, Bool.or_eq_false_iff, decide_eq_false_iff_not, Bool.not_false, Bool.not_true, Bool.and_true, Bool.and_false, Bool.or_false, and_true, or_true, reduceCtorEq, Bool.false_eq_true] <;> omega
  · by_cases h2 : b.cmp a = 0
    · cases i <;> cases j <;> simp only [h2, Int.lt_irrefl, if_true, if_false, Bool.and_eq_true, Bool.not_eq_true', Bool.and_eq_false_iff, Bool.or_eq_false_iff, decide_eq_false_iff_not, Bool.not_false, Bool.not_true, Bool.and_true, Bool.and_false, Bool.or_false, Bool.and_self, and_true, or_true, reduceCtorEq, Bool.false_eq_true] <;> omega
    · cases i <;> cases j <;> simp only [h1, h2, if_false, Bool.and_eq_true, Bool.not_eq_true', Bool.and_eq_false_iff, Bool.or_eq_false_iff, decide_eq_false_iff_not, Bool.not_false, Bool.not_true, Bool.and_true, Bool.and_false, Bool.or_false, and_true, or_true, reduceCtorEq, Bool.false_eq_true] <;> omega
theorem highJ_in {k : Int} {a b v : VL} {i j : Bool} (ha : a.Right) (hb : b.Right) (hv : v.Right) (ka : a.k = k ∨ a.k = 0) (kb : b.k = k ∨ b.k = 0) : highB v (highJ a b i j).1 (highJ a b i j).2 = (highB v a i && highB v b j) := by
  obtain ⟨ρ, hρ⟩ := ranks vl_cmp [a, b, v, VL.null]
  have q1 := hρ b (by simp) a (by simp)
  have v1 := hρ v (by simp) a (by simp)
  have v2 := hρ v (by simp) b (by simp)
  have e1 : ρ b = ρ a → b = a := fun h => vl_cmp.eq _ _ (q1.2.1.2 h)
  have zz : a.k = 0 → b.k = 0 → a = b := fun h h' => by rw [null_of ha h, null_of hb h']
  clear hρ
  unfold highJ highB
  rw [Bool.eq_iff_iff]
  by_cases h1 : b.k ≠ 0 ∧ (a.k = 0 ∨ b.cmp a < 0)
  · simp only [if_pos h1]
    cases i <;> cases j <;> simp only [Bool.and_eq_true, Bool.not_eq_true', Bool.and_eq_false_iff, Bool.or_eq_false_iff, decide_eq_false_iff_not, Bool.not_false, Bool.not_true, Bool.and_true, Bool.and_false, Bool.or_false, and_true, or_true, reduceCtorEq, Bool.false_eq_true] <;> omega
  · simp only [if_neg h1]
    by_cases h2 : a.same b = true
    · have := VL.same_iff.1 h2
      subst this
      simp only [if_pos h2]
      cases i <;> cases j <;> simp only [Bool.and_eq_true, Bool.not_eq_true', Bool.and_eq_false_iff, Bool.or_eq_false_iff, decide_eq_false_iff_not, Bool.not_false, Bool.not_true, Bool.and_true, Bool.and_false, Bool.or_false, Bool.and_self, and_true, or_true, reduceCtorEq, Bool.false_eq_true] <;> omega
    · have hne : a ≠ b := fun h => h2 (VL.same_iff.2 h)
      have hr : ρ b ≠ ρ a := fun h => hne (e1 h).symm
      have hz : ¬ (a.k = 0 ∧ b.k = 0) := fun ⟨x, y⟩ => hne (zz x y)
      simp only [if_neg h2]
      cases i <;> cases j <;> simp only [Bool.and_eq_true, Bool.not_eq_true', Bool.and_eq_false_iff, Bool.or_eq_false_iff, decide_eq_false_iff_not, Bool.not_false, Bool.not_true, Bool.and_true, Bool.and_false, Bool.or_false, and_true, or_true, reduceCtorEq, Bool.false_eq_true] <;> omega
end Go.Proofs.Try

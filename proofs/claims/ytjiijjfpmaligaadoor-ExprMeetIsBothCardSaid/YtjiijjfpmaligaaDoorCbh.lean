/-
  A part of the proof: see the text of the law.
-/
import Derived.Test.YtjiijjfpmaligaaDoorCas
import Derived.Test.YtjiijjfpmaligaaDoorCao
import Derived.Test.YtjiijjfpmaligaaDoorCaw
set_option linter.unusedSimpArgs false
set_option linter.unusedVariables false
namespace Go.Proofs.Try
open Go.Proofs.Tryd
open Go.Al
set_option maxRecDepth 100000
/-- alum/alumref36.RightRange -/
def mc22 : MC :=
 (.seq (.ops [(none, (.e (.box 1 (.t 0)))),
 (none, (.v (.mov 2 (.c (.bool false)))))])
 (.seq (.ops [(none, (.v (.load 7 true 11 (.t 1)))),
 (none, (.e (.alloc 3 [(.bool false), (.bool false), (.bool false), (.int .i64 0), (.int .i64 0), (.str ⟨#[]⟩), (.int .i64 0), (.int .i64 0), (.str ⟨#[]⟩), (.bool false), (.bool false)]))),
 (none, (.e (.store 11 true (.t 3) (.t 7))))])
 (.seq (.ops [(none, (.v (.fld 8 0 (.t 3)))),
 (none, (.e (.store 1 false (.t 8) (.c (.bool false)))))])
 (.seq (.ops [(none, (.v (.fld 9 1 (.t 3)))),
 (none, (.e (.store 1 false (.t 9) (.c (.bool false)))))])
 (.seq (.ops [(none, (.v (.fld 10 2 (.t 3)))),
 (none, (.e (.store 1 false (.t 10) (.c (.bool false)))))])
 (.seq (.seq (.ops [(none, (.v (.fld 11 0 (.t 1)))),
 (none, (.v (.load 12 false 1 (.t 11)))),
 (none, (.v (.mov 13 (.t 12)))),
 ((some (13, false)), (.v (.fld 14 1 (.t 1)))),
 ((some (13, false)), (.v (.load 15 false 1 (.t 14)))),
 (none, (.v (.pick 16 (.t 13) (.c (.bool true)) (.t 15)))),
 (none, (.v (.mov 17 (.t 16)))),
 ((some (17, false)), (.v (.fld 18 2 (.t 1)))),
 ((some (17, false)), (.v (.load 19 false 1 (.t 18)))),
 (none, (.v (.pick 20 (.t 17) (.c (.bool true)) (.t 19))))])
 (.cond 20
 (.seq (.ops [(none, (.v (.fld 21 0 (.t 1)))),
 (none, (.v (.load 22 false 1 (.t 21)))),
 (none, (.v (.fld 23 1 (.t 1)))),
 (none, (.v (.load 24 false 1 (.t 23)))),
 (none, (.v (.bin 25 .neq true (.t 22) (.t 24)))),
 (none, (.v (.mov 26 (.t 25)))),
 ((some (26, true)), (.v (.fld 27 2 (.t 1)))),
 ((some (26, true)), (.v (.load 28 false 1 (.t 27)))),
 ((some (26, true)), (.v (.not 29 (.t 28)))),
 (none, (.v (.pick 30 (.t 26) (.t 29) (.c (.bool false))))),
 (none, (.v (.mov 31 (.t 30)))),
 ((some (31, false)), (.v (.fld 32 0 (.t 1)))),
 ((some (31, false)), (.v (.load 33 false 1 (.t 32)))),
 ((some (31, false)), (.v (.not 34 (.t 33)))),
 ((some (31, false)), (.v (.mov 35 (.t 34)))),
 ((some (35, true)), (.v (.fld 36 1 (.t 1)))),
 ((some (35, true)), (.v (.load 37 false 1 (.t 36)))),
 ((some (35, true)), (.v (.not 38 (.t 37)))),
 ((some (31, false)), (.v (.pick 39 (.t 35) (.t 38) (.c (.bool false))))),
 (none, (.v (.pick 40 (.t 31) (.c (.bool true)) (.t 39)))),
 (none, (.v (.mov 4 (.t 40))))])
 (.seq (.ops [(none, (.v (.mov 41 (.t 4)))),
 (none, (.v (.mov 42 (.t 41)))),
 ((some (42, true)), (.v (.load 43 true 11 (.t 3)))),
 ((some (42, true)), (.v (.build 44 [(.bool false), (.bool false), (.bool false), (.int .i64 0), (.int .i64 0), (.str ⟨#[]⟩), (.int .i64 0), (.int .i64 0), (.str ⟨#[]⟩), (.bool false), (.bool false)] []))),
 ((some (42, true)), (.v (.eq 45 false (.agg [(0, false, 1, .bool), (1, false, 1, .bool), (2, false, 1, .bool), (3, true, 3, (.agg [(0, false, 1, .int), (1, false, 1, .int), (2, false, 1, .str)])), (6, true, 3, (.agg [(0, false, 1, .int), (1, false, 1, .int), (2, false, 1, .str)])), (9, false, 1, .bool), (10, false, 1, .bool)]) (.t 43) (.t 44)))),
 (none, (.v (.pick 46 (.t 42) (.t 45) (.c (.bool false))))),
 (none, (.v (.mov 2 (.t 46))))])
 .ret))
 .skip))
 (.seq (.ops [(none, (.v (.fld 47 3 (.t 1)))),
 (none, (.v (.load 48 true 3 (.t 47)))),
 (none, (.e (.call (some 49) 21 [(.t 48)]))),
 (none, (.v (.mov 5 (.t 49))))])
 (.seq (.ops [(none, (.v (.fld 50 6 (.t 1)))),
 (none, (.v (.load 51 true 3 (.t 50)))),
 (none, (.e (.call (some 52) 21 [(.t 51)]))),
 (none, (.v (.mov 6 (.t 52))))])
 (.seq (.seq (.ops [(none, (.v (.mov 53 (.t 5)))),
 (none, (.v (.not 54 (.t 53)))),
 (none, (.v (.mov 55 (.t 54)))),
 ((some (55, false)), (.v (.mov 56 (.t 6)))),
 ((some (55, false)), (.v (.not 57 (.t 56)))),
 (none, (.v (.pick 58 (.t 55) (.c (.bool true)) (.t 57)))),
 (none, (.v (.mov 59 (.t 58)))),
 ((some (59, false)), (.v (.fld 60 9 (.t 1)))),
 ((some (59, false)), (.v (.load 61 false 1 (.t 60)))),
 ((some (59, false)), (.v (.mov 62 (.t 61)))),
 ((some (62, true)), (.v (.fld 63 3 (.t 1)))),
 ((some (62, true)), (.v (.fld 64 0 (.t 63)))),
 ((some (62, true)), (.v (.load 65 false 1 (.t 64)))),
 ((some (62, true)), (.v (.bin 66 .eql false (.t 65) (.c (.int .i64 0))))),
 ((some (59, false)), (.v (.pick 67 (.t 62) (.t 66) (.c (.bool false))))),
 (none, (.v (.pick 68 (.t 59) (.c (.bool true)) (.t 67)))),
 (none, (.v (.mov 69 (.t 68)))),
 ((some (69, false)), (.v (.fld 70 10 (.t 1)))),
 ((some (69, false)), (.v (.load 71 false 1 (.t 70)))),
 ((some (69, false)), (.v (.mov 72 (.t 71)))),
 ((some (72, true)), (.v (.fld 73 6 (.t 1)))),
 ((some (72, true)), (.v (.fld 74 0 (.t 73)))),
 ((some (72, true)), (.v (.load 75 false 1 (.t 74)))),
 ((some (72, true)), (.v (.bin 76 .eql false (.t 75) (.c (.int .i64 0))))),
 ((some (69, false)), (.v (.pick 77 (.t 72) (.t 76) (.c (.bool false))))),
 (none, (.v (.pick 78 (.t 69) (.c (.bool true)) (.t 77))))])
 (.cond 78
 (.seq (.ops [(none, (.v (.mov 2 (.c (.bool false)))))])
 .ret)
 .skip))
 (.seq (.seq (.ops [(none, (.v (.fld 79 3 (.t 1)))),
 (none, (.v (.fld 80 0 (.t 79)))),
 (none, (.v (.load 81 false 1 (.t 80)))),
 (none, (.v (.bin 82 .neq false (.t 81) (.c (.int .i64 0))))),
 (none, (.v (.mov 83 (.t 82)))),
 ((some (83, true)), (.v (.fld 84 6 (.t 1)))),
 ((some (83, true)), (.v (.fld 85 0 (.t 84)))),
 ((some (83, true)), (.v (.load 86 false 1 (.t 85)))),
 ((some (83, true)), (.v (.bin 87 .neq false (.t 86) (.c (.int .i64 0))))),
 (none, (.v (.pick 88 (.t 83) (.t 87) (.c (.bool false))))),
 (none, (.v (.mov 89 (.t 88)))),
 ((some (89, true)), (.v (.fld 90 3 (.t 1)))),
 ((some (89, true)), (.v (.fld 91 0 (.t 90)))),
 ((some (89, true)), (.v (.load 92 false 1 (.t 91)))),
 ((some (89, true)), (.v (.fld 93 6 (.t 1)))),
 ((some (89, true)), (.v (.fld 94 0 (.t 93)))),
 ((some (89, true)), (.v (.load 95 false 1 (.t 94)))),
 ((some (89, true)), (.v (.bin 96 .neq false (.t 92) (.t 95)))),
 (none, (.v (.pick 97 (.t 89) (.t 96) (.c (.bool false)))))])
 (.cond 97
 (.seq (.ops [(none, (.v (.mov 2 (.c (.bool false)))))])
 .ret)
 .skip))
 (.seq (.ops [(none, (.v (.load 98 true 11 (.t 1)))),
 (none, (.e (.call (some 99) 65 [(.t 98)]))),
 (none, (.v (.not 100 (.t 99)))),
 (none, (.v (.mov 2 (.t 100))))])
 .ret)))))))))))
theorem ok22 : FnOk E 22 101 [.tmp 2] mc22 := .of func22 (by kernel_rfl) (by kernel_rfl) (by kernel_rfl) (by kernel_rfl) (by kernel_rfl)
/-- alum/alumref36.OfKind -/
def mc23 : MC :=
 (.seq (.ops [(none, (.e (.box 2 (.t 0)))),
 (none, (.v (.mov 4 (.c (.bool false)))))])
 (.seq (.ops [(none, (.v (.fld 5 3 (.t 2)))),
 (none, (.v (.fld 6 0 (.t 5)))),
 (none, (.v (.load 7 false 1 (.t 6)))),
 (none, (.v (.mov 8 (.t 1)))),
 (none, (.v (.bin 9 .eql false (.t 7) (.t 8)))),
 (none, (.v (.mov 10 (.t 9)))),
 ((some (10, false)), (.v (.fld 11 3 (.t 2)))),
 ((some (10, false)), (.v (.fld 12 0 (.t 11)))),
 ((some (10, false)), (.v (.load 13 false 1 (.t 12)))),
 ((some (10, false)), (.v (.bin 14 .eql false (.t 13) (.c (.int .i64 0))))),
 (none, (.v (.pick 15 (.t 10) (.c (.bool true)) (.t 14)))),
 (none, (.v (.mov 16 (.t 15)))),
 ((some (16, true)), (.v (.fld 17 6 (.t 2)))),
 ((some (16, true)), (.v (.fld 18 0 (.t 17)))),
 ((some (16, true)), (.v (.load 19 false 1 (.t 18)))),
 ((some (16, true)), (.v (.mov 20 (.t 1)))),
 ((some (16, true)), (.v (.bin 21 .eql false (.t 19) (.t 20)))),
 ((some (16, true)), (.v (.mov 22 (.t 21)))),
 ((some (22, false)), (.v (.fld 23 6 (.t 2)))),
 ((some (22, false)), (.v (.fld 24 0 (.t 23)))),
 ((some (22, false)), (.v (.load 25 false 1 (.t 24)))),
 ((some (22, false)), (.v (.bin 26 .eql false (.t 25) (.c (.int .i64 0))))),
 ((some (16, true)), (.v (.pick 27 (.t 22) (.c (.bool true)) (.t 26)))),
 (none, (.v (.pick 28 (.t 16) (.t 27) (.c (.bool false))))),
 (none, (.v (.mov 4 (.t 28))))])
 .ret))
theorem ok23 : FnOk E 23 29 [.tmp 4] mc23 := .of func23 (by kernel_rfl) (by kernel_rfl) (by kernel_rfl) (by kernel_rfl) (by kernel_rfl)
/-- alum/alumref36.void -/
def mc65 : MC :=
 (.seq (.ops [(none, (.e (.box 1 (.t 0)))),
 (none, (.v (.mov 2 (.c (.bool false)))))])
 (.seq (.seq (.ops [(none, (.v (.fld 4 3 (.t 1)))),
 (none, (.v (.fld 5 0 (.t 4)))),
 (none, (.v (.load 6 false 1 (.t 5)))),
 (none, (.v (.bin 7 .eql false (.t 6) (.c (.int .i64 0))))),
 (none, (.v (.mov 8 (.t 7)))),
 ((some (8, false)), (.v (.fld 9 6 (.t 1)))),
 ((some (8, false)), (.v (.fld 10 0 (.t 9)))),
 ((some (8, false)), (.v (.load 11 false 1 (.t 10)))),
 ((some (8, false)), (.v (.bin 12 .eql false (.t 11) (.c (.int .i64 0))))),
 (none, (.v (.pick 13 (.t 8) (.c (.bool true)) (.t 12))))])
 (.cond 13
 (.seq (.ops [(none, (.v (.mov 2 (.c (.bool false)))))])
 .ret)
 .skip))
 (.seq (.ops [(none, (.v (.fld 14 3 (.t 1)))),
 (none, (.v (.load 15 true 3 (.t 14)))),
 (none, (.v (.fld 16 6 (.t 1)))),
 (none, (.v (.load 17 true 3 (.t 16)))),
 (none, (.e (.call (some 18) 84 [(.t 15), (.t 17)]))),
 (none, (.v (.mov 3 (.t 18))))])
 (.seq (.ops [(none, (.v (.mov 19 (.t 3)))),
 (none, (.v (.bin 20 .gtr false (.t 19) (.c (.int .i64 0))))),
 (none, (.v (.mov 21 (.t 20)))),
 ((some (21, false)), (.v (.mov 22 (.t 3)))),
 ((some (21, false)), (.v (.bin 23 .eql false (.t 22) (.c (.int .i64 0))))),
 ((some (21, false)), (.v (.mov 24 (.t 23)))),
 ((some (24, true)), (.v (.fld 25 9 (.t 1)))),
 ((some (24, true)), (.v (.load 26 false 1 (.t 25)))),
 ((some (24, true)), (.v (.mov 27 (.t 26)))),
 ((some (27, true)), (.v (.fld 28 10 (.t 1)))),
 ((some (27, true)), (.v (.load 29 false 1 (.t 28)))),
 ((some (24, true)), (.v (.pick 30 (.t 27) (.t 29) (.c (.bool false))))),
 ((some (24, true)), (.v (.not 31 (.t 30)))),
 ((some (21, false)), (.v (.pick 32 (.t 24) (.t 31) (.c (.bool false))))),
 (none, (.v (.pick 33 (.t 21) (.c (.bool true)) (.t 32)))),
 (none, (.v (.mov 2 (.t 33))))])
 .ret))))
theorem ok65 : FnOk E 65 34 [.tmp 2] mc65 := .of func65 (by kernel_rfl) (by kernel_rfl) (by kernel_rfl) (by kernel_rfl) (by kernel_rfl)
end Go.Proofs.Try
namespace Go.Proofs.Try
open Go.Al
set_option linter.unusedVariables false
set_option linter.unusedSimpArgs false
set_option maxRecDepth 20000
set_option maxHeartbeats 8000000

/-! ### ranges that are right -/
def RG.void19 (x : RG) : Bool := if x.lo.k = 0 ∨ x.hi.k = 0 then false else decide (0 < x.lo.cmp19 x.hi) || (decide (x.lo.cmp19 x.hi = 0) && !(x.li && x.ri))
theorem c65 (x : RG) : ACalls E.P 65 [x.av] [] (fun r H => r = .bool x.void19 ∧ H = []) := by
  obtain ⟨e, nl, all, lo, hi, li, ri⟩ := x
  have h84 : ACalls E.P 84 [.agg lo.cs, .agg hi.cs] [] (fun r H => r = .int .i64 (lo.cmp19 hi) ∧ H = []) := c84 lo hi
  have key : ∀ b, b = RG.void19 ⟨e, nl, all, lo, hi, li, ri⟩ → (AV.bool b = AV.bool (RG.void19 ⟨e, nl, all, lo, hi, li, ri⟩)) := fun b h => by rw [h]
  simp only [rg_av]
  refine ok65.acalls hE hm (by simp) fun N hN => ?_
  unfold mc65
  simp only [lAL, lDF, tupA, eqA, isNil, slcNil, ptrCells, ptrAdd, cellsO, intA, boolA, readsV, readsP, isCall, wrote, srcOf, isNilSlice, Value.oneCell', seval, implies_true, forall_eq, ne_eq]
  repeat' (first
    | (with_reducible first | apply cond_d | apply cond_nd | apply cond_i | apply guard_d | apply guard_nd | apply guard_df | apply guard_ndf | apply guard_i | apply ag_d | apply ag_nd | apply ag_df | apply ag_ndf | apply ag_i) <;> intro _
    | with_reducible first | refine LenR_i fun _ => ?_ | refine And.intro (by omega) ?_ | refine and_assoc.2 ?_ | apply sp_cond | apply sp_guard | apply sp_ag | apply sp_call | apply sp_acall | apply sp_loop | apply sp_any | apply sp_frz | apply sp_len | apply sp_idx | apply sp_keep | apply sp_back
    | with_reducible refine frz0_i ?_
    | ((with_reducible first | refine callN_i [] true (by simp) (by simp) ?_ | refine acallN_i true ?_); simp only [lPA, lPD, novO, setAll, seval, implies_true, ti45]; (refine ⟨_, h84, ?_⟩; rintro _ _ ⟨rfl, rfl⟩); simp only [lAL, lDF, tupA, eqA, isNil, slcNil, ptrCells, ptrAdd, cellsO, intA, boolA, readsV, readsP, isCall, wrote, srcOf, isNilSlice, Value.oneCell', seval, implies_true, forall_eq, ne_eq, lPA, lPD, novO, setAll, ti45])
    | ((with_reducible refine keep0_i ?_); simp only [lPA, lPD, novO, setAll, seval, implies_true])
    | simp (maxSteps := 1000000) (disch := omega) only [lAL, lDF, tupA, eqA, isNil, slcNil, ptrCells, ptrAdd, cellsO, intA, boolA, readsV, readsP, isCall, wrote, srcOf, isNilSlice, Value.oneCell', seval, implies_true, forall_eq, ne_eq, wrap_i64, LenR_ok, List.length_map, IdxR_ints, ti45])
  all_goals clear h84
  all_goals
    apply key
    clear key
    simp only [RG.void19]
    simp [*]
/-- Of a kind. -/
def RG.ofK (x : RG) (k : Int) : Bool := decide (x.lo.k = k ∨ x.lo.k = 0) && decide (x.hi.k = k ∨ x.hi.k = 0)
theorem c23 (x : RG) (k : Int) : ACalls E.P 23 [x.av, .int .i64 k] [] (fun r H => r = .bool (x.ofK k) ∧ H = []) := by
  obtain ⟨e, nl, all, lo, hi, li, ri⟩ := x
  have key : ∀ b, b = RG.ofK ⟨e, nl, all, lo, hi, li, ri⟩ k → (AV.bool b = AV.bool (RG.ofK ⟨e, nl, all, lo, hi, li, ri⟩ k)) := fun b h => by rw [h]
  simp only [rg_av]
  refine ok23.acalls hE hm (by simp) fun N hN => ?_
  unfold mc23
  simp only [lAL, lDF, tupA, eqA, isNil, slcNil, ptrCells, ptrAdd, cellsO, intA, boolA, readsV, readsP, isCall, wrote, srcOf, isNilSlice, Value.oneCell', seval, implies_true, forall_eq, ne_eq]
  repeat' (first
    | (with_reducible first | apply cond_d | apply cond_nd | apply cond_i | apply guard_d | apply guard_nd | apply guard_df | apply guard_ndf | apply guard_i | apply ag_d | apply ag_nd | apply ag_df | apply ag_ndf | apply ag_i) <;> intro _
    | with_reducible first | refine LenR_i fun _ => ?_ | refine And.intro (by omega) ?_ | refine and_assoc.2 ?_ | apply sp_cond | apply sp_guard | apply sp_ag | apply sp_call | apply sp_acall | apply sp_loop | apply sp_any | apply sp_frz | apply sp_len | apply sp_idx | apply sp_keep | apply sp_back
    | with_reducible refine frz0_i ?_
    | ((with_reducible refine keep0_i ?_); simp only [lPA, lPD, novO, setAll, seval, implies_true])
    | simp (maxSteps := 1000000) (disch := omega) only [lAL, lDF, tupA, eqA, isNil, slcNil, ptrCells, ptrAdd, cellsO, intA, boolA, readsV, readsP, isCall, wrote, srcOf, isNilSlice, Value.oneCell', seval, implies_true, forall_eq, ne_eq, wrap_i64, LenR_ok, List.length_map, IdxR_ints, ti45])
  all_goals
    apply key
    clear key
    simp only [RG.ofK]
    simp [*]
def RG.rt (x : RG) : Bool :=
  if (x.e || x.nl || x.all) = true then ((x.e != x.nl) && !x.all || (!x.e && !x.nl)) && decide (x.lo = VL.null ∧ x.hi = VL.null ∧ x.li = false ∧ x.ri = false)
  else decide x.lo.Right && decide x.hi.Right && !(x.li && decide (x.lo.k = 0)) && !(x.ri && decide (x.hi.k = 0)) && !(decide (x.lo.k ≠ 0) && decide (x.hi.k ≠ 0) && decide (x.lo.k ≠ x.hi.k)) && !x.void19
theorem null_iff (v : VL) : v = VL.null ↔ v.k = 0 ∧ v.n = 0 ∧ v.s = ⟨#[]⟩ := by
  obtain ⟨k, n, s⟩ := v
  simp [VL.null]
theorem c22 (x : RG) : ACalls E.P 22 [x.av] [] (fun r H => r = .bool x.rt ∧ H = []) := by
  have h65 := c65 x
  obtain ⟨e, nl, all, lo, hi, li, ri⟩ := x
  have h21 : ∀ v : VL, ACalls E.P 21 [.agg v.cs] [] (fun r H => r = .bool (decide v.Right) ∧ H = []) := c21
  have h21a := h21 lo
  have h21b := h21 hi
  have key : ∀ b, b = RG.rt ⟨e, nl, all, lo, hi, li, ri⟩ → (AV.bool b = AV.bool (RG.rt ⟨e, nl, all, lo, hi, li, ri⟩)) := fun b h => by rw [h]
  simp only [rg_av] at *
  refine ok22.acalls hE hm (by simp) fun N hN => ?_
  unfold mc22
  simp only [lAL, lDF, tupA, eqA, isNil, slcNil, ptrCells, ptrAdd, cellsO, intA, boolA, readsV, readsP, isCall, wrote, srcOf, isNilSlice, Value.oneCell', seval, implies_true, forall_eq, ne_eq]
  cases e <;> cases nl <;> cases all
  all_goals
    repeat' (first
      | (with_reducible first | apply cond_d | apply cond_nd | apply cond_i | apply guard_d | apply guard_nd | apply guard_df | apply guard_ndf | apply guard_i | apply ag_d | apply ag_nd | apply ag_df | apply ag_ndf | apply ag_i) <;> intro _
      | with_reducible first | refine LenR_i fun _ => ?_ | refine And.intro (by omega) ?_ | refine and_assoc.2 ?_ | apply sp_cond | apply sp_guard | apply sp_ag | apply sp_call | apply sp_acall | apply sp_loop | apply sp_any | apply sp_frz | apply sp_len | apply sp_idx | apply sp_keep | apply sp_back
      | with_reducible refine frz0_i ?_
      | ((with_reducible first | refine callN_i [] true (by simp) (by simp) ?_ | refine acallN_i true ?_); simp only [lPA, lPD, novO, setAll, seval, implies_true, ti45, strA, flatEq]; (first | (refine ⟨_, h21a, ?_⟩; rintro _ _ ⟨rfl, rfl⟩) | (refine ⟨_, h21b, ?_⟩; rintro _ _ ⟨rfl, rfl⟩) | (refine ⟨_, h65, ?_⟩; rintro _ _ ⟨rfl, rfl⟩)); simp only [lAL, lDF, tupA, eqA, isNil, slcNil, ptrCells, ptrAdd, cellsO, intA, boolA, readsV, readsP, isCall, wrote, srcOf, isNilSlice, Value.oneCell', seval, implies_true, forall_eq, ne_eq, lPA, lPD, novO, setAll, ti45, strA, flatEq])
      | ((with_reducible refine keep0_i ?_); simp only [lPA, lPD, novO, setAll, seval, implies_true])
      | simp (maxSteps := 1000000) (disch := omega) only [lAL, lDF, tupA, eqA, isNil, slcNil, ptrCells, ptrAdd, cellsO, intA, boolA, readsV, readsP, isCall, wrote, srcOf, isNilSlice, Value.oneCell', seval, implies_true, forall_eq, ne_eq, wrap_i64, LenR_ok, List.length_map, IdxR_ints, ti45, strA, flatEq])
  all_goals clear h65 h21 h21a h21b
  all_goals
    apply key
    clear key
    simp only [RG.rt, null_iff]
    first
      | (simp_all; done)
      | (simp [*]; done)
      | trace_state
end Go.Proofs.Try

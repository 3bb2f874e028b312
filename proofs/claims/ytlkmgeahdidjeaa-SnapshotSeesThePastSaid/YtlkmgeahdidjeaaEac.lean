/-
  A part of the proof: see the text of the law.
-/
import Derived.Test.YtlkmgeahdidjeaaEab
set_option linter.unusedSimpArgs false
set_option linter.unusedVariables false
namespace Go.Proofs.Try
open Go.Al
set_option maxRecDepth 100000
/-- alum/snapshot.Visible -/
def mc12 : MC :=
 (.seq (.ops [(none, (.e (.alloc 6 [(.int .i64 0), (.int .i64 0), (.bool false), (.raw (.slice none 0 0))]))),
 (none, (.v (.mov 7 (.c (.bool false)))))])
 (.seq (.ops [(none, (.e (.alloc 8 [(.int .i64 0), (.int .i64 0), (.bool false), (.raw (.slice none 0 0))])))])
 (.seq (.seq (.ops [(none, (.v (.mov 11 (.t 0)))),
 (none, (.p (.len 12 (.t 11)))),
 (none, (.v (.mov 13 (.c (.int .i64 0)))))])
 (.block 0 (.loop (.seq (.ops [(none, (.v (.bin 14 .lss false (.t 13) (.t 12))))])
 (.seq (.cond 14
 .skip
 (.exit 0))
 (.seq (.block 1 (.seq (.ops [(none, (.p (.idx 15 4 (.t 11) (.t 13)))),
 (none, (.v (.load 16 true 4 (.t 15)))),
 (none, (.e (.alloc 10 [(.int .i64 0), (.int .i64 0), (.bool false), (.raw (.slice none 0 0))]))),
 (none, (.e (.store 4 true (.t 10) (.t 16))))])
 (.seq (.ops [(none, (.v (.fld 17 0 (.t 10)))),
 (none, (.v (.load 18 false 1 (.t 17)))),
 (none, (.v (.mov 19 (.t 1)))),
 (none, (.v (.bin 20 .eql false (.t 18) (.t 19)))),
 (none, (.v (.mov 21 (.t 20)))),
 ((some (21, true)), (.v (.fld 22 1 (.t 10)))),
 ((some (21, true)), (.v (.load 23 false 1 (.t 22)))),
 ((some (21, true)), (.v (.mov 24 (.t 2)))),
 ((some (21, true)), (.v (.bin 25 .leq false (.t 23) (.t 24)))),
 (none, (.v (.pick 26 (.t 21) (.t 25) (.c (.bool false))))),
 (none, (.v (.mov 27 (.t 26)))),
 ((some (27, true)), (.v (.fld 28 1 (.t 10)))),
 ((some (27, true)), (.v (.load 29 false 1 (.t 28)))),
 ((some (27, true)), (.v (.fld 30 1 (.t 8)))),
 ((some (27, true)), (.v (.load 31 false 1 (.t 30)))),
 ((some (27, true)), (.v (.bin 32 .gtr false (.t 29) (.t 31)))),
 (none, (.v (.pick 33 (.t 27) (.t 32) (.c (.bool false)))))])
 (.cond 33
 (.ops [(none, (.v (.load 34 true 4 (.t 10)))),
 (none, (.e (.store 4 true (.t 8) (.t 34))))])
 .skip))))
 (.ops [(none, (.v (.bin 35 .add false (.t 13) (.c (.int .i64 1))))),
 (none, (.v (.mov 13 (.t 35))))])))))))
 (.seq (.seq (.ops [(none, (.v (.fld 36 1 (.t 8)))),
 (none, (.v (.load 37 false 1 (.t 36)))),
 (none, (.v (.bin 38 .eql false (.t 37) (.c (.int .i64 0))))),
 (none, (.v (.mov 39 (.t 38)))),
 ((some (39, false)), (.v (.fld 40 2 (.t 8)))),
 ((some (39, false)), (.v (.load 41 false 1 (.t 40)))),
 (none, (.v (.pick 42 (.t 39) (.c (.bool true)) (.t 41))))])
 (.cond 42
 (.seq (.ops [(none, (.v (.build 43 [(.int .i64 0), (.int .i64 0), (.bool false), (.raw (.slice none 0 0))] []))),
 (none, (.e (.store 4 true (.t 6) (.t 43)))),
 (none, (.v (.mov 7 (.c (.bool false)))))])
 .ret)
 .skip))
 (.seq (.ops [(none, (.v (.load 44 true 4 (.t 8)))),
 (none, (.e (.store 4 true (.t 6) (.t 44)))),
 (none, (.v (.mov 7 (.c (.bool true)))))])
 .ret)))))
theorem ok12 : FnOk E 12 45 [.cell 6 29, .tmp 7] mc12 := .of func12 (by kernel_rfl) (by kernel_rfl) (by kernel_rfl) (by kernel_rfl) (by kernel_rfl)
/-- alum/alumref25.Visible -/
def mc13 : MC :=
 (.seq (.ops [(none, (.e (.alloc 6 [(.int .i64 0), (.int .i64 0), (.bool false), (.raw (.slice none 0 0))]))),
 (none, (.v (.mov 7 (.c (.bool false)))))])
 (.seq (.ops [(none, (.v (.mov 9 (.t 0)))),
 (none, (.v (.mov 10 (.t 1)))),
 (none, (.v (.mov 11 (.t 2)))),
 (none, (.e (.call (some 12) 31 [(.t 9), (.t 10), (.t 11)]))),
 (none, (.v (.mov 8 (.t 12))))])
 (.seq (.seq (.ops [(none, (.v (.mov 13 (.t 8)))),
 (none, (.v (.bin 14 .lss false (.t 13) (.c (.int .i64 0))))),
 (none, (.v (.mov 15 (.t 14)))),
 ((some (15, false)), (.v (.mov 16 (.t 0)))),
 ((some (15, false)), (.v (.mov 17 (.t 8)))),
 ((some (15, false)), (.v (.max 18 [(.t 17), (.c (.int .i64 0))]))),
 ((some (15, false)), (.p (.idx 19 4 (.t 16) (.t 18)))),
 ((some (15, false)), (.v (.fld 20 2 (.t 19)))),
 ((some (15, false)), (.v (.load 21 false 1 (.t 20)))),
 (none, (.v (.pick 22 (.t 15) (.c (.bool true)) (.t 21))))])
 (.cond 22
 (.seq (.ops [(none, (.v (.build 23 [(.int .i64 0), (.int .i64 0), (.bool false), (.raw (.slice none 0 0))] []))),
 (none, (.e (.store 4 true (.t 6) (.t 23)))),
 (none, (.v (.mov 7 (.c (.bool false)))))])
 .ret)
 .skip))
 (.seq (.ops [(none, (.v (.mov 24 (.t 0)))),
 (none, (.v (.mov 25 (.t 8)))),
 (none, (.p (.idx 26 4 (.t 24) (.t 25)))),
 (none, (.v (.load 27 true 4 (.t 26)))),
 (none, (.e (.store 4 true (.t 6) (.t 27)))),
 (none, (.v (.mov 7 (.c (.bool true)))))])
 .ret))))
theorem ok13 : FnOk E 13 28 [.cell 6 29, .tmp 7] mc13 := .of func13 (by kernel_rfl) (by kernel_rfl) (by kernel_rfl) (by kernel_rfl) (by kernel_rfl)
/-- alum/snapshot.Newer -/
def mc17 : MC :=
 (.seq (.ops [(none, (.e (.box 4 (.t 1)))),
 (none, (.e (.box 5 (.t 2)))),
 (none, (.v (.mov 6 (.c (.bool false)))))])
 (.seq (.ops [(none, (.v (.mov 7 (.t 0)))),
 (none, (.v (.fn 8 (.func 33) [] [(.t 4), (.t 5)]))),
 (none, (.e (.call (some 9) 32 [(.t 7), (.t 8)]))),
 (none, (.v (.mov 6 (.t 9))))])
 .ret))
theorem ok17 : FnOk E 17 10 [.tmp 6] mc17 := .of func17 (by kernel_rfl) (by kernel_rfl) (by kernel_rfl) (by kernel_rfl) (by kernel_rfl)
/-- alum/alumref25.sees -/
def mc31 : MC :=
 (.seq (.ops [(none, (.v (.mov 6 (.c (.int .i64 0)))))])
 (.seq (.ops [(none, (.v (.mov 7 (.c (.int .i64 (-1))))))])
 (.seq (.seq (.ops [(none, (.v (.mov 8 (.c (.int .i64 0)))))])
 (.block 0 (.loop (.seq (.seq (.ops [(none, (.v (.mov 9 (.t 8)))),
 (none, (.v (.mov 10 (.t 0)))),
 (none, (.p (.len 11 (.t 10)))),
 (none, (.v (.bin 12 .lss false (.t 9) (.t 11))))])
 (.cond 12
 .skip
 (.exit 0)))
 (.seq (.block 1 (.seq (.any false (.pure0 none (.v (.mov 15 (.t 0)))
 (.pure0 none (.v (.mov 16 (.t 8)))
 (.pure0 none (.p (.idx 17 4 (.t 15) (.t 16)))
 (.pure0 none (.v (.fld 18 0 (.t 17)))
 (.pure0 none (.v (.load 19 false 1 (.t 18)))
 (.pure0 none (.v (.mov 20 (.t 1)))
 (.pure0 none (.v (.bin 21 .eql false (.t 19) (.t 20)))
 (.pure0 none (.v (.mov 22 (.t 21)))
 (.pure0 (some (22, true)) (.v (.mov 23 (.t 0)))
 (.pure0 (some (22, true)) (.v (.mov 24 (.t 8)))
 (.pure0 (some (22, true)) (.p (.idx 25 4 (.t 23) (.t 24)))
 (.pure0 (some (22, true)) (.v (.fld 26 1 (.t 25)))
 (.pure0 (some (22, true)) (.v (.load 27 false 1 (.t 26)))
 (.pure0 (some (22, true)) (.v (.mov 28 (.t 2)))
 (.pure0 (some (22, true)) (.v (.bin 29 .leq false (.t 27) (.t 28)))
 (.pure0 none (.v (.pick 30 (.t 22) (.t 29) (.c (.bool false))))
 (.pure0 none (.v (.mov 31 (.t 30)))
 (.pure0 (some (31, true)) (.v (.mov 32 (.t 7)))
 (.pure0 (some (31, true)) (.v (.bin 33 .lss false (.t 32) (.c (.int .i64 0))))
 (.pure0 (some (31, true)) (.v (.mov 34 (.t 33)))
 (.pure0 (some (34, false)) (.v (.mov 35 (.t 0)))
 (.pure0 (some (34, false)) (.v (.mov 36 (.t 8)))
 (.pure0 (some (34, false)) (.p (.idx 37 4 (.t 35) (.t 36)))
 (.pure0 (some (34, false)) (.v (.fld 38 1 (.t 37)))
 (.pure0 (some (34, false)) (.v (.load 39 false 1 (.t 38)))
 (.pure0 (some (34, false)) (.v (.mov 40 (.t 0)))
 (.pure0 (some (34, false)) (.v (.mov 41 (.t 7)))
 (.pure0 (some (34, false)) (.p (.idx 42 4 (.t 40) (.t 41)))
 (.pure0 (some (34, false)) (.v (.fld 43 1 (.t 42)))
 (.pure0 (some (34, false)) (.v (.load 44 false 1 (.t 43)))
 (.pure0 (some (34, false)) (.v (.bin 45 .gtr false (.t 39) (.t 44)))
 (.pure0 (some (31, true)) (.v (.pick 46 (.t 34) (.c (.bool true)) (.t 45)))
 (.pure0 none (.v (.pick 47 (.t 31) (.t 46) (.c (.bool false))))
 .done))))))))))))))))))))))))))))))))))
 (.cond 47
 (.ops [(none, (.v (.mov 48 (.t 8)))),
 (none, (.v (.mov 7 (.t 48))))])
 .skip)))
 (.ops [(none, (.v (.mov 13 (.t 8)))),
 (none, (.v (.bin 14 .add false (.t 13) (.c (.int .i64 1))))),
 (none, (.v (.mov 8 (.t 14))))]))))))
 (.seq (.ops [(none, (.v (.mov 49 (.t 7)))),
 (none, (.v (.mov 6 (.t 49))))])
 .ret))))
theorem ok31 : FnOk E 31 50 [.tmp 6] mc31 := .of func31 (by kernel_rfl) (by kernel_rfl) (by kernel_rfl) (by kernel_rfl) (by kernel_rfl)
/-- slices.ContainsFunc[[]alum/api.Version,alum/api.Version] -/
def mc32 : MC :=
 (.seq (.ops [(none, (.v (.mov 4 (.c (.bool false)))))])
 (.seq (.ops [(none, (.v (.mov 5 (.t 0)))),
 (none, (.v (.mov 6 (.t 1)))),
 (none, (.e (.call (some 7) 43 [(.t 5), (.t 6)]))),
 (none, (.v (.bin 8 .geq false (.t 7) (.c (.int .i64 0))))),
 (none, (.v (.mov 4 (.t 8))))])
 .ret))
theorem ok32 : FnOk E 32 9 [.tmp 4] mc32 := .of func32 (by kernel_rfl) (by kernel_rfl) (by kernel_rfl) (by kernel_rfl) (by kernel_rfl)
/-- slices.IndexFunc[[]alum/api.Version,alum/api.Version] -/
def mc43 : MC :=
 (.seq (.ops [(none, (.v (.mov 4 (.c (.int .i64 0)))))])
 (.seq (.seq (.ops [(none, (.v (.mov 6 (.t 0)))),
 (none, (.p (.len 7 (.t 6)))),
 (none, (.v (.mov 8 (.c (.int .i64 0)))))])
 (.block 0 (.loop (.seq (.ops [(none, (.v (.bin 9 .lss false (.t 8) (.t 7))))])
 (.seq (.cond 9
 .skip
 (.exit 0))
 (.seq (.block 1 (.seq (.ops [(none, (.v (.mov 10 (.t 8)))),
 (none, (.v (.mov 5 (.t 10))))])
 (.seq (.ops [(none, (.v (.mov 11 (.t 1)))),
 (none, (.v (.mov 12 (.t 0)))),
 (none, (.v (.mov 13 (.t 5)))),
 (none, (.p (.idx 14 4 (.t 12) (.t 13)))),
 (none, (.v (.load 15 true 4 (.t 14)))),
 (none, (.e (.callv (some 16) (.t 11) [(.t 15)])))])
 (.cond 16
 (.seq (.ops [(none, (.v (.mov 17 (.t 5)))),
 (none, (.v (.mov 4 (.t 17))))])
 .ret)
 .skip))))
 (.ops [(none, (.v (.bin 18 .add false (.t 8) (.c (.int .i64 1))))),
 (none, (.v (.mov 8 (.t 18))))])))))))
 (.seq (.ops [(none, (.v (.mov 4 (.c (.int .i64 (-1))))))])
 .ret)))
theorem ok43 : FnOk E 43 19 [.tmp 4] mc43 := .of func43 (by kernel_rfl) (by kernel_rfl) (by kernel_rfl) (by kernel_rfl) (by kernel_rfl)
end Go.Proofs.Try
namespace Go.Proofs.Try
open Go.Al
set_option linter.unusedVariables false
set_option linter.unusedSimpArgs false
set_option maxRecDepth 20000

theorem c43 (l : List Ver) (row snap : Int) :
    ACalls E.P 43 [.view 4 (l.map Ver.av), .fn (.func 33) [] [.vp [.int .i64 row], .vp [.int .i64 snap]]] [] (fun r H => (∃ n : Int, r = .int .i64 n ∧ (0 ≤ n ↔ newer l row snap = true)) ∧ H = []) := by
  have hmax := maxLen_eq
  refine ok43.acalls hE hm (by simp) fun N hN => ?_
  unfold mc43
  simp only [lA, ptrCells, ptrAdd, isNil, readsV, readsP, isCall, wrote, srcOf, seval]
  refine LenR_i fun hl => ?_
  rw [List.length_map, hmax] at hl
  simp only [lA, ptrCells, ptrAdd, isNil, readsV, readsP, isCall, wrote, srcOf, seval, List.length_map]
  refine loop_i (fun i : Nat => i ≤ l.length ∧ newer (l.take i) row snap = false) (fun i => ⟨[(0, .view 4 (l.map Ver.av)), (1, .fn (.func 33) [] [.vp [.int .i64 row], .vp [.int .i64 snap]]), (7, .int .i64 l.length), (8, .int .i64 i)], []⟩) (fun i => l.length - i) 0 ⟨by omega, rfl⟩ (Ent.to [] false (by simp) (by simp) rfl (by simp only [lP, seval] <;> (try simp) <;> (try omega)) (by simp only [lP, seval] <;> (try simp) <;> (try omega))) ?_
  rintro i ⟨hi, ha⟩
  have hpi := c33 (l.getD i default) row snap
  simp only [ver_av] at hpi
  repeat' (first
   | (with_reducible apply St.o; constructor) <;> intro _
   | with_reducible first | refine LenR_i fun _ => ?_ | refine And.intro (by omega) ?_ | (apply Sp.o; constructor) | refine mkl_own ?_ | refine frz0_i ?_
   | ((with_reducible apply Sc.o true; constructor); simp only [lP, seval, IdxR_vers, Int.toNat_natCast, List.length_map]; refine ⟨_, hpi, ?_⟩; rintro _ _ ⟨rfl, rfl⟩; simp only [lA, lP, ptrCells, ptrAdd, isNil, readsV, readsP, isCall, wrote, srcOf, seval, IdxR_vers, Int.toNat_natCast, List.length_map])
   | ((with_reducible refine keep0_i ?_); simp only [lP, seval])
   | simp (maxSteps := 1000000) (disch := omega) only [lE, ptrCells, ptrAdd, isNil, readsV, readsP, isCall, wrote, srcOf, seval, IdxR_vers, Int.toNat_natCast, List.length_map])
  · rename_i h1 h2
    refine ⟨i, rfl, ?_⟩
    have : newer l row snap = true := any_at (i := i) (by omega) h2
    simp only [this, iff_true]; omega
  · rename_i h1 h2
    exact back_i (i + 1) ⟨by omega, any_next (by omega) ha (by simpa using h2)⟩ (by omega) (Ent.to [] false (by simp) (by simp) rfl (by simp only [lP, seval] <;> (try simp) <;> (try omega)) (by simp only [lP, seval] <;> (try simp) <;> (try omega)))
  · rename_i h1
    refine ⟨-1, rfl, ?_⟩
    rw [List.take_of_length_le (by omega)] at ha
    simp [ha]
theorem c32 (l : List Ver) (row snap : Int) :
    ACalls E.P 32 [.view 4 (l.map Ver.av), .fn (.func 33) [] [.vp [.int .i64 row], .vp [.int .i64 snap]]] [] (fun r H => r = .bool (newer l row snap) ∧ H = []) := by
  have h43 := c43 l row snap
  refine ok32.acalls hE hm (by simp) fun N hN => ?_
  unfold mc32
  simp only [lA, ptrCells, ptrAdd, isNil, readsV, readsP, isCall, wrote, srcOf, seval]
  repeat' (first
   | (with_reducible apply St.o; constructor) <;> intro _
   | with_reducible first | refine LenR_i fun _ => ?_ | refine And.intro (by omega) ?_ | (apply Sp.o; constructor) | refine mkl_own ?_ | refine frz0_i ?_
   | ((with_reducible apply Sc.o true; constructor); simp only [lP, seval]; refine ⟨_, h43, ?_⟩; rintro _ _ ⟨⟨n, rfl, hn⟩, rfl⟩; simp only [lA, lP, ptrCells, ptrAdd, isNil, readsV, readsP, isCall, wrote, srcOf, seval])
   | ((with_reducible refine keep0_i ?_); simp only [lP, seval])
   | simp (maxSteps := 1000000) (disch := omega) only [lE, ptrCells, ptrAdd, isNil, readsV, readsP, isCall, wrote, srcOf, seval])
  simp only [ge_iff_le, hn, Bool.decide_eq_true]
theorem c17 (l : List Ver) (row snap : Int) : ACalls E.P 17 [.view 4 (l.map Ver.av), .int .i64 row, .int .i64 snap] [] (fun r H => r = .bool (newer l row snap) ∧ H = []) := by
  have h32 := c32 l row snap
  refine ok17.acalls hE hm (by simp) fun N hN => ?_
  unfold mc17
  simp only [lA, ptrCells, ptrAdd, isNil, readsV, readsP, isCall, wrote, srcOf, seval]
  repeat' (first
   | (with_reducible apply St.o; constructor) <;> intro _
   | with_reducible first | refine LenR_i fun _ => ?_ | refine And.intro (by omega) ?_ | (apply Sp.o; constructor) | refine mkl_own ?_ | refine frz0_i ?_
   | ((with_reducible apply Sc.o true; constructor); simp only [lP, seval]; refine ⟨_, h32, ?_⟩; rintro _ _ ⟨rfl, rfl⟩; simp only [lA, lP, ptrCells, ptrAdd, isNil, readsV, readsP, isCall, wrote, srcOf, seval])
   | ((with_reducible refine keep0_i ?_); simp only [lP, seval])
   | simp (maxSteps := 1000000) (disch := omega) only [lE, ptrCells, ptrAdd, isNil, readsV, readsP, isCall, wrote, srcOf, seval])

/-- The version that a snapshot sees, by its place. -/
def seesN (l : List Ver) (row snap : Int) : Nat → Int
  | 0 => -1
  | i + 1 => if (l.getD i default).row = row ∧ (l.getD i default).stamp ≤ snap ∧ (seesN l row snap i < 0 ∨ (l.getD i default).stamp > (l.getD (seesN l row snap i).toNat default).stamp) then i else seesN l row snap i
theorem seesN_le (l : List Ver) (row snap : Int) : ∀ i, -1 ≤ seesN l row snap i ∧ seesN l row snap i < i
  | 0 => by simp [seesN]
  | i + 1 => by
    have := seesN_le l row snap i
    simp only [seesN]
    split <;> omega
def sees (l : List Ver) (row snap : Int) : Int := seesN l row snap l.length
theorem c31 (l : List Ver) (row snap : Int) : ACalls E.P 31 [.view 4 (l.map Ver.av), .int .i64 row, .int .i64 snap] [] (fun r H => r = .int .i64 (sees l row snap) ∧ H = []) := by
  have hmax := maxLen_eq
  refine ok31.acalls hE hm (by simp) fun N hN => ?_
  unfold mc31
  simp only [lA, ptrCells, ptrAdd, isNil, readsV, readsP, isCall, wrote, srcOf, seval]
  refine loop_i (fun i : Nat => i ≤ l.length) (fun i => ⟨[(0, .view 4 (l.map Ver.av)), (1, .int .i64 row), (2, .int .i64 snap), (7, .int .i64 (seesN l row snap i)), (8, .int .i64 i)], []⟩) (fun i => l.length - i) 0 (by omega) (Ent.to [] false (by simp) (by simp) rfl (by simp only [lP, seval, List.length_map, seesN] <;> (try simp) <;> (try omega)) (by simp only [lP, seval, List.length_map, seesN] <;> (try simp) <;> (try omega))) ?_
  intro i hi
  have hs := seesN_le l row snap i
  repeat' (first
   | (with_reducible apply St.o; constructor) <;> intro _
   | with_reducible first | refine LenR_i fun _ => ?_ | refine And.intro (by omega) ?_ | (apply Sp.o; constructor) | refine mkl_own ?_ | refine frz0_i ?_ | refine any_i [] ?_
   | ((with_reducible refine keep0_i ?_); simp only [lP, seval])
   | simp (maxSteps := 1000000) (disch := omega) only [lE, ptrCells, ptrAdd, isNil, readsV, readsP, isCall, wrote, srcOf, seval, IdxR_vers, Int.toNat_natCast, List.length_map])
  all_goals try (have e : seesN l row snap (i + 1) = i := if_pos ⟨by assumption, by assumption, by first | (left; assumption) | (right; assumption)⟩
                 exact back_i (i + 1) (by omega) (by omega) (Ent.to [] false (by simp) (by simp) rfl (by simp only [lP, seval, e] <;> (try simp) <;> (try omega)) (by simp only [lP, seval, e] <;> (try simp) <;> (try omega))))
  all_goals try (have e : seesN l row snap (i + 1) = seesN l row snap i := if_neg (fun ⟨h1, h2, h3⟩ => by first | exact absurd h1 (by assumption) | exact absurd h2 (by assumption) | (rcases h3 with h3 | h3 <;> first | contradiction | omega))
                 exact back_i (i + 1) (by omega) (by omega) (Ent.to [] false (by simp) (by simp) rfl (by simp only [lP, seval, e] <;> (try simp) <;> (try omega)) (by simp only [lP, seval, e] <;> (try simp) <;> (try omega))))
  rename_i h1
  rw [show i = l.length by omega]; rfl
theorem ti29 : E.TI 29 = some ⟨.struct [(0, 3), (1, 3), (2, 4), (3, 27)], 4, 48, [.int .i64 0, .int .i64 0, .bool false, .slice none 0 0], true, true, false⟩ := rfl
/-- What a snapshot sees of a row. -/
def Ver0 : Ver := ⟨0, 0, false, []⟩
abbrev zcs : List AV := [.int .i64 0, .int .i64 0, .bool false, .raw (.slice none 0 0)]
theorem weak_zero : Weak (.agg zcs) Ver0.av := fun γ σ v hr => by
  obtain ⟨vs, rfl, h1, h2⟩ := hr
  obtain ⟨a, vs1, rfl, ha, h3⟩ := repVs_cons.1 h1
  obtain ⟨b, vs2, rfl, hb, h4⟩ := repVs_cons.1 h3
  obtain ⟨c, vs3, rfl, hc, h5⟩ := repVs_cons.1 h4
  obtain ⟨d, vs4, rfl, hd, h6⟩ := repVs_cons.1 h5
  exact ⟨_, rfl, repVs_cons.2 ⟨_, _, rfl, ha, repVs_cons.2 ⟨_, _, rfl, hb, repVs_cons.2 ⟨_, _, rfl, hc, repVs_cons.2 ⟨_, _, rfl, weak_nil γ σ _ hd, h6⟩⟩⟩⟩, h2⟩
theorem keepz_i {Q : AV → List AObj → Prop} {H : List AObj} {b : Bool} (h : Q (.tup [Ver0.av, .bool b]) (pH H [] false 8)) : keepQ 0 Q (.tup [.agg zcs, .bool b]) H := keepw_i [] false rfl (by simp) rfl (weak_zero.tup2 (.refl _)) h
def refVis (l : List Ver) (row snap : Int) : Ver × Bool :=
  if sees l row snap < 0 ∨ (l.getD (sees l row snap).toNat default).dead = true then (Ver0, false) else (l.getD (sees l row snap).toNat default, true)
theorem c13 (l : List Ver) (row snap : Int) : ACalls E.P 13 [.view 4 (l.map Ver.av), .int .i64 row, .int .i64 snap] [] (fun r H => r = .tup [(refVis l row snap).1.av, .bool (refVis l row snap).2] ∧ H = []) := by
  have h31 := c31 l row snap
  have hs := seesN_le l row snap l.length
  have hs1 : -1 ≤ sees l row snap := hs.1
  have hs2 : sees l row snap < l.length := hs.2
  refine ok13.acalls hE hm (by simp) fun N hN => ?_
  unfold mc13
  simp only [lA, ptrCells, ptrAdd, isNil, readsV, readsP, isCall, wrote, srcOf, seval]
  repeat' (first
   | (with_reducible apply St.o; constructor) <;> intro _
   | with_reducible first | refine LenR_i fun _ => ?_ | refine And.intro (by omega) ?_ | (apply Sp.o; constructor) | refine mkl_own ?_ | refine frz0_i ?_
   | ((with_reducible apply Sc.o true; constructor); simp only [lP, seval, IdxR_vers, Int.toNat_natCast, List.length_map, ti29]; refine ⟨_, h31, ?_⟩; rintro _ _ ⟨rfl, rfl⟩; simp only [lA, lP, ptrCells, ptrAdd, isNil, readsV, readsP, isCall, wrote, srcOf, seval, IdxR_vers, Int.toNat_natCast, List.length_map, ti29])
   | simp (maxSteps := 1000000) (disch := omega) only [lE, ptrCells, ptrAdd, isNil, readsV, readsP, isCall, wrote, srcOf, seval, IdxR_vers, Int.toNat_natCast, List.length_map, ti29])
  · rename_i h1 h2
    have h2' : (l.getD (sees l row snap).toNat default).dead = true := by rwa [if_neg (by omega)] at h2
    exact keepz_i ⟨by rw [refVis, if_pos (.inr h2')], rfl⟩
  · rename_i h1 h2
    have h2' : (l.getD (sees l row snap).toNat default).dead = false := by rwa [if_neg (by omega)] at h2
    refine keep0_i ?_
    simp only [lP, seval]
    rw [refVis, if_neg (by rw [h2']; simp; omega)]
    simp [ver_av]
  · rename_i h1
    exact keepz_i ⟨by rw [refVis, if_pos (.inl h1)], rfl⟩

/-- .. as snapshot.Visible finds it. -/
def stamp0 : Option Ver → Int
  | none => 0
  | some v => v.stamp
def ocs : Option Ver → List AV
  | none => zcs
  | some v => v.cs
def visN (l : List Ver) (row snap : Int) : Nat → Option Ver
  | 0 => none
  | i + 1 => if (l.getD i default).row = row ∧ (l.getD i default).stamp ≤ snap ∧ (l.getD i default).stamp > stamp0 (visN l row snap i) then some (l.getD i default) else visN l row snap i
def vis (l : List Ver) (row snap : Int) : Ver × Bool := match visN l row snap l.length with
  | none => (Ver0, false)
  | some v => if v.stamp = 0 ∨ v.dead = true then (Ver0, false) else (v, true)
theorem c12 (l : List Ver) (row snap : Int) : ACalls E.P 12 [.view 4 (l.map Ver.av), .int .i64 row, .int .i64 snap] [] (fun r H => r = .tup [(vis l row snap).1.av, .bool (vis l row snap).2] ∧ H = []) := by
  have hmax := maxLen_eq
  refine ok12.acalls hE hm (by simp) fun N hN => ?_
  unfold mc12
  simp only [lA, ptrCells, ptrAdd, isNil, readsV, readsP, isCall, wrote, srcOf, seval]
  refine LenR_i fun hl => ?_
  rw [List.length_map, hmax] at hl
  simp only [lA, ptrCells, ptrAdd, isNil, readsV, readsP, isCall, wrote, srcOf, seval, List.length_map]
  refine loop_i (fun i : Nat => i ≤ l.length) (fun i => ⟨[(0, .view 4 (l.map Ver.av)), (1, .int .i64 row), (2, .int .i64 snap), (6, .op 0 0), (7, .bool false), (8, .op 1 0), (11, .view 4 (l.map Ver.av)), (12, .int .i64 l.length), (13, .int .i64 i)], [.box zcs, .box (ocs (visN l row snap i))]⟩) (fun i => l.length - i) 0 (by omega) (Ent.to [0,1] false (by simp) (by simp) rfl (by simp only [lP, seval, List.length_map, visN, ocs] <;> (try simp) <;> (try omega)) (by simp only [lP, seval, List.length_map, visN, ocs] <;> (try simp) <;> (try omega))) ?_
  intro i hi
  rcases hb : visN l row snap i with _ | b
  · simp only [ocs]
    repeat' (first
     | (with_reducible apply St.o; constructor) <;> intro _
     | with_reducible first | refine LenR_i fun _ => ?_ | refine And.intro (by omega) ?_ | (apply Sp.o; constructor) | refine mkl_own ?_ | refine frz0_i ?_
     | simp (maxSteps := 1000000) (disch := omega) only [lE, ptrCells, ptrAdd, isNil, readsV, readsP, isCall, wrote, srcOf, seval, IdxR_vers, Int.toNat_natCast, List.length_map, ti29])
    all_goals try (have e : visN l row snap (i + 1) = some (l.getD i default) := if_pos ⟨by assumption, by assumption, by rw [hb]; assumption⟩
                   exact back_i (i + 1) (by omega) (by omega) (Ent.to [0,1] false (by simp) (by simp) rfl (by simp only [lP, seval, e, ocs] <;> (try simp) <;> (try omega)) (by simp only [lP, seval, e, ocs] <;> (try simp) <;> (try omega))))
    all_goals try (have e : visN l row snap (i + 1) = visN l row snap i := if_neg (fun ⟨h1, h2, h3⟩ => by rw [hb] at h3; first | exact absurd h1 (by assumption) | exact absurd h2 (by assumption) | exact absurd h3 (by assumption))
                   rw [hb] at e
                   exact back_i (i + 1) (by omega) (by omega) (Ent.to [0,1] false (by simp) (by simp) rfl (by simp only [lP, seval, e, ocs] <;> (try simp) <;> (try omega)) (by simp only [lP, seval, e, ocs] <;> (try simp) <;> (try omega))))
    rename_i h1
    refine keepz_i ⟨?_, rfl⟩
    rw [show i = l.length by omega] at hb
    simp [vis, hb]
  · simp only [ocs]
    repeat' (first
     | (with_reducible apply St.o; constructor) <;> intro _
     | with_reducible first | refine LenR_i fun _ => ?_ | refine And.intro (by omega) ?_ | (apply Sp.o; constructor) | refine mkl_own ?_ | refine frz0_i ?_
     | simp (maxSteps := 1000000) (disch := omega) only [lE, ptrCells, ptrAdd, isNil, readsV, readsP, isCall, wrote, srcOf, seval, IdxR_vers, Int.toNat_natCast, List.length_map, ti29])
    all_goals try (have e : visN l row snap (i + 1) = some (l.getD i default) := if_pos ⟨by assumption, by assumption, by rw [hb]; assumption⟩
                   exact back_i (i + 1) (by omega) (by omega) (Ent.to [0,1] false (by simp) (by simp) rfl (by simp only [lP, seval, e, ocs] <;> (try simp) <;> (try omega)) (by simp only [lP, seval, e, ocs] <;> (try simp) <;> (try omega))))
    all_goals try (have e : visN l row snap (i + 1) = visN l row snap i := if_neg (fun ⟨h1, h2, h3⟩ => by rw [hb] at h3; first | exact absurd h1 (by assumption) | exact absurd h2 (by assumption) | exact absurd h3 (by assumption))
                   rw [hb] at e
                   exact back_i (i + 1) (by omega) (by omega) (Ent.to [0,1] false (by simp) (by simp) rfl (by simp only [lP, seval, e, ocs] <;> (try simp) <;> (try omega)) (by simp only [lP, seval, e, ocs] <;> (try simp) <;> (try omega))))
    · rename_i h1 h2
      refine keepz_i ⟨?_, rfl⟩
      rw [show i = l.length by omega] at hb
      simp [vis, hb, h2]
    · rename_i h1 h2 h3
      refine keep0_i ?_
      simp only [lP, seval]
      rw [show i = l.length by omega] at hb
      simp [vis, hb, h2, h3, ver_av]
    · rename_i h1 h2
      refine keepz_i ⟨?_, rfl⟩
      rw [show i = l.length by omega] at hb
      simp [vis, hb, h2]
end Go.Proofs.Try

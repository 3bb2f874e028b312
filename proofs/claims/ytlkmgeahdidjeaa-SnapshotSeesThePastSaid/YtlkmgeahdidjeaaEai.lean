/-
  A part of the proof: see the text of the law.
-/
import Derived.Test.YtlkmgeahdidjeaaEah
import Derived.Test.YtlkmgeahdidjeaaPaa
set_option linter.unusedSimpArgs false
set_option linter.unusedVariables false
namespace Go.Proofs.Try
open Go.Al
set_option maxRecDepth 100000
/-- slices.BinarySearchFunc[[]alum/api.Version,alum/api.Version,int] -/
def mc45 : MC :=
 (.seq (.ops [(none, (.v (.mov 6 (.c (.int .i64 0))))),
 (none, (.v (.mov 7 (.c (.bool false)))))])
 (.seq (.ops [(none, (.v (.mov 12 (.t 0)))),
 (none, (.p (.len 13 (.t 12)))),
 (none, (.v (.mov 8 (.t 13))))])
 (.seq (.ops [(none, (.v (.mov 14 (.t 8)))),
 (none, (.v (.mov 9 (.c (.int .i64 0))))),
 (none, (.v (.mov 10 (.t 14))))])
 (.seq (.block 0 (.loop (.seq (.seq (.ops [(none, (.v (.mov 15 (.t 9)))),
 (none, (.v (.mov 16 (.t 10)))),
 (none, (.v (.bin 17 .lss false (.t 15) (.t 16))))])
 (.cond 17
 .skip
 (.exit 0)))
 (.block 1 (.seq (.ops [(none, (.v (.mov 18 (.t 9)))),
 (none, (.v (.mov 19 (.t 10)))),
 (none, (.v (.bin 20 .add false (.t 18) (.t 19)))),
 (none, (.v (.conv 21 .u64 (.t 20)))),
 (none, (.p (.shr 22 (.t 21) (.c (.int .u64 1))))),
 (none, (.v (.conv 23 .i64 (.t 22)))),
 (none, (.v (.mov 11 (.t 23))))])
 (.seq (.ops [(none, (.v (.mov 24 (.t 2)))),
 (none, (.v (.mov 25 (.t 0)))),
 (none, (.v (.mov 26 (.t 11)))),
 (none, (.p (.idx 27 4 (.t 25) (.t 26)))),
 (none, (.v (.load 28 true 4 (.t 27)))),
 (none, (.v (.mov 29 (.t 1)))),
 (none, (.e (.callv (some 30) (.t 24) [(.t 28), (.t 29)]))),
 (none, (.v (.bin 31 .lss false (.t 30) (.c (.int .i64 0)))))])
 (.cond 31
 (.ops [(none, (.v (.mov 32 (.t 11)))),
 (none, (.v (.bin 33 .add false (.t 32) (.c (.int .i64 1))))),
 (none, (.v (.mov 9 (.t 33))))])
 (.ops [(none, (.v (.mov 34 (.t 11)))),
 (none, (.v (.mov 10 (.t 34))))]))))))))
 (.seq (.ops [(none, (.v (.mov 35 (.t 9)))),
 (none, (.v (.mov 36 (.t 9)))),
 (none, (.v (.mov 37 (.t 8)))),
 (none, (.v (.bin 38 .lss false (.t 36) (.t 37)))),
 (none, (.v (.mov 39 (.t 38)))),
 ((some (39, true)), (.v (.mov 40 (.t 2)))),
 ((some (39, true)), (.v (.mov 41 (.t 0)))),
 ((some (39, true)), (.v (.mov 42 (.t 9)))),
 ((some (39, true)), (.p (.idx 43 4 (.t 41) (.t 42)))),
 ((some (39, true)), (.v (.load 44 true 4 (.t 43)))),
 ((some (39, true)), (.v (.mov 45 (.t 1)))),
 ((some (39, true)), (.e (.callv (some 46) (.t 40) [(.t 44), (.t 45)]))),
 ((some (39, true)), (.v (.bin 47 .eql false (.t 46) (.c (.int .i64 0))))),
 (none, (.v (.pick 48 (.t 39) (.t 47) (.c (.bool false))))),
 (none, (.v (.mov 6 (.t 35)))),
 (none, (.v (.mov 7 (.t 48))))])
 .ret)))))
theorem ok45 : FnOk E 45 49 [.tmp 6, .tmp 7] mc45 := .of func45 (by kernel_rfl) (by kernel_rfl) (by kernel_rfl) (by kernel_rfl) (by kernel_rfl)
/-- alum/snapshot.sees$1 -/
def mc46 : MC :=
 (.seq (.ops [(none, (.e (.box 2 (.t 0)))),
 (none, (.v (.mov 4 (.c (.int .i64 0)))))])
 (.seq (.ops [(none, (.v (.fld 5 1 (.t 2)))),
 (none, (.v (.load 6 false 1 (.t 5)))),
 (none, (.v (.mov 7 (.t 1)))),
 (none, (.e (.call (some 8) 47 [(.t 6), (.t 7)]))),
 (none, (.v (.mov 4 (.t 8))))])
 .ret))
theorem ok46 : FnOk E 46 9 [.tmp 4] mc46 := .of func46 (by kernel_rfl) (by kernel_rfl) (by kernel_rfl) (by kernel_rfl) (by kernel_rfl)
end Go.Proofs.Try
namespace Go.Proofs.Try
open Go.Al
set_option linter.unusedVariables false
set_option linter.unusedSimpArgs false
set_option maxRecDepth 20000
set_option maxHeartbeats 4000000

theorem c42 (l : List Ver) (hd : diff l) (hc : l.length ≤ 1048576) : ACalls E.P 42 [.view 4 (l.map Ver.av)] [] (fun r H => r = .view 4 ((ordered l).map Ver.av) ∧ H = []) :=
  (c42' l hc).mono fun r H ⟨l', hp, hs, hr, hH⟩ => ⟨by rw [hr, srtd_one hd hp hs], hH⟩
theorem c46 (v : Ver) (snap : Int) : ACalls E.P 46 [v.av, .int .i64 snap] [] (fun r H => r = .int .i64 (sgn v.stamp snap) ∧ H = []) := by
  have h47 := c47 v.stamp snap
  refine ok46.acalls hE hm (by simp) fun N hN => ?_
  unfold mc46
  simp only [lA, ptrCells, ptrAdd, isNil, readsV, readsP, isCall, wrote, srcOf, seval, ver_av]
  repeat' (first
   | (with_reducible apply St.o; constructor) <;> intro _
   | with_reducible first | refine LenR_i fun _ => ?_ | refine And.intro (by omega) ?_ | (apply Sp.o; constructor) | refine mkl_own ?_ | refine frz0_i ?_
   | ((with_reducible apply Sc.o true; constructor); simp only [lP, seval]; refine ⟨_, h47, ?_⟩; rintro _ _ ⟨rfl, rfl⟩; simp only [lA, lP, ptrCells, ptrAdd, isNil, readsV, readsP, isCall, wrote, srcOf, seval])
   | ((with_reducible refine keep0_i ?_); simp only [lP, seval])
   | simp (maxSteps := 1000000) (disch := omega) only [lE, ptrCells, ptrAdd, isNil, readsV, readsP, isCall, wrote, srcOf, seval])
theorem half (i j : Nat) (h : i + j ≤ 9223372036854775807) : IntKind.u64.wrap ((i : Int) + j) = ((i + j : Nat) : Int) := by
  simp [IntKind.wrap, IntKind.bits, IntKind.signed]
  omega
theorem half2 (n : Nat) (h : n ≤ 9223372036854775807) : IntKind.i64.wrap (((n : Nat) : Int).fdiv (2 ^ min 1 IntKind.u64.bits)) = ((n / 2 : Nat) : Int) := by
  have e : ((2 : Int) ^ min 1 IntKind.u64.bits) = 2 := rfl
  rw [e, Int.fdiv_eq_ediv_of_nonneg _ (by omega), wrap_i64 (by omega) (by omega)]
  omega
theorem sgn_lt (a b : Int) : sgn a b < 0 ↔ a < b := by unfold sgn; repeat' split <;> omega
theorem sgn_eq (a b : Int) : sgn a b = 0 ↔ a = b := by unfold sgn; repeat' split <;> omega
/-- The stamps ascend. -/
def asc (l : List Ver) : Prop := l.Pairwise fun a b => a.stamp ≤ b.stamp
theorem asc_get {l : List Ver} (h : asc l) {i j : Nat} (hij : i ≤ j) (hj : j < l.length) : (l.getD i default).stamp ≤ (l.getD j default).stamp := by
  rcases Nat.lt_or_ge i j with h1 | h1
  · have := List.pairwise_iff_getElem.1 h i j (by omega) hj h1
    simpa [hj, show i < l.length by omega] using this
  · rw [show i = j by omega]; exact Int.le_refl _
theorem c45 (l : List Ver) (snap : Int) (ha : asc l) (hc : l.length ≤ 1048576) : ACalls E.P 45 [.view 4 (l.map Ver.av), .int .i64 snap, .fn (.func 46) [] []] []
    (fun r H => (∃ n : Nat, n ≤ l.length ∧ (∀ k, k < n → (l.getD k default).stamp < snap) ∧ (∀ k, n ≤ k → k < l.length → snap ≤ (l.getD k default).stamp) ∧ r = .tup [.int .i64 n, .bool (decide (n < l.length ∧ (l.getD n default).stamp = snap))]) ∧ H = []) := by
  have hmax := maxLen_eq
  refine ok45.acalls hE hm (by simp) fun N hN => ?_
  unfold mc45
  simp only [lA, ptrCells, ptrAdd, isNil, readsV, readsP, isCall, wrote, srcOf, seval]
  refine LenR_i fun hl => ?_
  simp only [lA, ptrCells, ptrAdd, isNil, readsV, readsP, isCall, wrote, srcOf, seval, List.length_map]
  refine loop_i (fun p : Nat × Nat => p.1 ≤ p.2 ∧ p.2 ≤ l.length ∧ (∀ k, k < p.1 → (l.getD k default).stamp < snap) ∧ (∀ k, p.2 ≤ k → k < l.length → snap ≤ (l.getD k default).stamp)) (fun p => ⟨[(0, .view 4 (l.map Ver.av)), (1, .int .i64 snap), (2, .fn (.func 46) [] []), (8, .int .i64 l.length), (9, .int .i64 p.1), (10, .int .i64 p.2)], []⟩) (fun p => p.2 - p.1) (0, l.length) ⟨by simp, Nat.le_refl _, fun k hk => absurd hk (by simp), fun k h1 h2 => absurd h1 (by simp only; omega)⟩ (Ent.to [] false (by simp) (by simp) rfl (by simp only [lP, seval] <;> (try simp) <;> (try omega)) (by simp only [lP, seval] <;> (try simp) <;> (try omega))) ?_
  rintro ⟨i, j⟩ ⟨h1, h2, h3, h4⟩
  simp only at h1 h2 h3 h4
  have h46 := c46 (l.getD ((i + j) / 2) default) snap
  have h46' := c46 (l.getD i default) snap
  simp only [ver_av] at h46 h46'
  have hh := half i j (by omega)
  have hh2 := half2 (i + j) (by omega)
  repeat' (first
   | (with_reducible apply St.o; constructor) <;> intro _
   | with_reducible first | refine LenR_i fun _ => ?_ | refine And.intro (by omega) ?_ | (apply Sp.o; constructor) | refine mkl_own ?_ | refine frz0_i ?_
   | ((with_reducible apply Sc.o true; constructor); simp only [lP, seval, IdxR_vers, Int.toNat_natCast, List.length_map, hh, hh2, sgn_lt, sgn_eq]; (first | refine ⟨_, h46, ?_⟩ | refine ⟨_, h46', ?_⟩); rintro _ _ ⟨rfl, rfl⟩; simp only [lA, lP, ptrCells, ptrAdd, isNil, readsV, readsP, isCall, wrote, srcOf, seval, IdxR_vers, Int.toNat_natCast, List.length_map, hh, hh2, sgn_lt, sgn_eq])
   | ((with_reducible refine keep0_i ?_); simp only [lP, seval])
   | simp (maxSteps := 1000000) (disch := omega) only [lE, ptrCells, ptrAdd, isNil, readsV, readsP, isCall, wrote, srcOf, seval, IdxR_vers, Int.toNat_natCast, List.length_map, hh, hh2, sgn_lt, sgn_eq])
  · rename_i g1 g2
    refine back_i ((i + j) / 2 + 1, j) ⟨by simp only; omega, h2, fun k hk => ?_, h4⟩ (by simp only; omega) (Ent.to [] false (by simp) (by simp) rfl (by simp only [lP, seval] <;> (try simp) <;> (try omega)) (by simp only [lP, seval] <;> (try simp) <;> (try omega)))
    have := asc_get ha (i := k) (j := (i + j) / 2) (by simp only at hk; omega) (by omega)
    omega
  · rename_i g1 g2
    refine back_i (i, (i + j) / 2) ⟨by simp only; omega, by simp only; omega, h3, fun k hk hkl => ?_⟩ (by simp only; omega) (Ent.to [] false (by simp) (by simp) rfl (by simp only [lP, seval] <;> (try simp) <;> (try omega)) (by simp only [lP, seval] <;> (try simp) <;> (try omega)))
    have := asc_get ha (i := (i + j) / 2) (j := k) hk hkl
    omega
  · rename_i g1 g2
    refine ⟨i, by omega, h3, fun k hk hkl => h4 k (by omega) hkl, ?_⟩
    rw [show (decide (i < l.length ∧ (l.getD i default).stamp = snap)) = decide ((l.getD i default).stamp = snap) by simp; omega]
  · rename_i g1 g2
    refine ⟨i, by omega, h3, fun k hk hkl => h4 k (by omega) hkl, ?_⟩
    rw [show (decide (i < l.length ∧ (l.getD i default).stamp = snap)) = false by simp; omega]
end Go.Proofs.Try

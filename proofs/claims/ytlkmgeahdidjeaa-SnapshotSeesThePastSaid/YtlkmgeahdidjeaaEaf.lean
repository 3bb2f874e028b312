/-
  A part of the proof: see the text of the law.
-/
import Derived.Test.YtlkmgeahdidjeaaEae
set_option linter.unusedSimpArgs false
set_option linter.unusedVariables false
namespace Go.Proofs.Try
open Go.Al
set_option maxRecDepth 100000
/-- alum/alumref25.Trim -/
def mc27 : MC :=
 (.seq (.ops [(none, (.v (.mov 4 (.c (.raw (.slice none 0 0))))))])
 (.seq (.ops [(none, (.v (.mov 5 (.c (.raw (.slice none 0 0))))))])
 (.seq (.ops [(none, (.v (.mov 12 (.t 0)))),
 (none, (.e (.call (some 13) 34 [(.t 12)]))),
 (none, (.v (.mov 6 (.t 13))))])
 (.seq (.seq (.ops [(none, (.v (.mov 7 (.c (.int .i64 0)))))])
 (.block 0 (.loop (.seq (.seq (.ops [(none, (.v (.mov 14 (.t 7)))),
 (none, (.v (.mov 15 (.t 6)))),
 (none, (.p (.len 16 (.t 15)))),
 (none, (.v (.bin 17 .lss false (.t 14) (.t 16))))])
 (.cond 17
 .skip
 (.exit 0)))
 (.seq (.block 1 (.seq (.ops [(none, (.v (.mov 8 (.c (.bool false)))))])
 (.seq (.seq (.ops [(none, (.v (.mov 20 (.t 5)))),
 (none, (.p (.len 21 (.t 20)))),
 (none, (.v (.bin 22 .gtr false (.t 21) (.c (.int .i64 0)))))])
 (.cond 22
 (.seq (.ops [(none, (.v (.mov 23 (.t 5)))),
 (none, (.v (.mov 24 (.t 5)))),
 (none, (.p (.len 25 (.t 24)))),
 (none, (.v (.bin 26 .sub false (.t 25) (.c (.int .i64 1))))),
 (none, (.p (.idx 27 4 (.t 23) (.t 26)))),
 (none, (.v (.load 28 true 4 (.t 27)))),
 (none, (.e (.alloc 9 [(.int .i64 0), (.int .i64 0), (.bool false), (.raw (.slice none 0 0))]))),
 (none, (.e (.store 4 true (.t 9) (.t 28))))])
 (.seq (.any false (.pure0 none (.v (.mov 29 (.t 7)))
 (.pure0 none (.v (.bin 30 .add false (.t 29) (.c (.int .i64 1))))
 (.pure0 none (.v (.mov 31 (.t 6)))
 (.pure0 none (.p (.len 32 (.t 31)))
 (.pure0 none (.v (.bin 33 .eql false (.t 30) (.t 32)))
 (.pure0 none (.v (.mov 34 (.t 33)))
 (.pure0 (some (34, false)) (.v (.mov 35 (.t 6)))
 (.pure0 (some (34, false)) (.v (.mov 36 (.t 7)))
 (.pure0 (some (34, false)) (.v (.bin 37 .add false (.t 36) (.c (.int .i64 1))))
 (.pure0 (some (34, false)) (.v (.mov 38 (.t 6)))
 (.pure0 (some (34, false)) (.p (.len 39 (.t 38)))
 (.pure0 (some (34, false)) (.v (.bin 40 .sub false (.t 39) (.c (.int .i64 1))))
 (.pure0 (some (34, false)) (.v (.min 41 [(.t 37), (.t 40)]))
 (.pure0 (some (34, false)) (.p (.idx 42 4 (.t 35) (.t 41)))
 (.pure0 (some (34, false)) (.v (.fld 43 0 (.t 42)))
 (.pure0 (some (34, false)) (.v (.load 44 false 1 (.t 43)))
 (.pure0 (some (34, false)) (.v (.mov 45 (.t 6)))
 (.pure0 (some (34, false)) (.v (.mov 46 (.t 7)))
 (.pure0 (some (34, false)) (.p (.idx 47 4 (.t 45) (.t 46)))
 (.pure0 (some (34, false)) (.v (.fld 48 0 (.t 47)))
 (.pure0 (some (34, false)) (.v (.load 49 false 1 (.t 48)))
 (.pure0 (some (34, false)) (.v (.bin 50 .neq false (.t 44) (.t 49)))
 (.pure0 none (.v (.pick 51 (.t 34) (.c (.bool true)) (.t 50)))
 (.pure0 none (.v (.mov 10 (.t 51)))
 .done)))))))))))))))))))))))))
 (.any false (.pure0 none (.v (.fld 52 0 (.t 9)))
 (.pure0 none (.v (.load 53 false 1 (.t 52)))
 (.pure0 none (.v (.mov 54 (.t 6)))
 (.pure0 none (.v (.mov 55 (.t 7)))
 (.pure0 none (.p (.idx 56 4 (.t 54) (.t 55)))
 (.pure0 none (.v (.fld 57 0 (.t 56)))
 (.pure0 none (.v (.load 58 false 1 (.t 57)))
 (.pure0 none (.v (.bin 59 .eql false (.t 53) (.t 58)))
 (.pure0 none (.v (.mov 60 (.t 59)))
 (.pure0 (some (60, true)) (.v (.fld 61 2 (.t 9)))
 (.pure0 (some (60, true)) (.v (.load 62 false 1 (.t 61)))
 (.pure0 (some (60, true)) (.v (.not 63 (.t 62)))
 (.pure0 (some (60, true)) (.v (.mov 64 (.t 63)))
 (.pure0 (some (64, false)) (.v (.mov 65 (.t 10)))
 (.pure0 (some (60, true)) (.v (.pick 66 (.t 64) (.c (.bool true)) (.t 65)))
 (.pure0 none (.v (.pick 67 (.t 60) (.t 66) (.c (.bool false))))
 (.pure0 none (.v (.mov 8 (.t 67)))
 .done))))))))))))))))))))
 .skip))
 (.seq (.ops [(none, (.v (.mov 68 (.t 6)))),
 (none, (.v (.mov 69 (.t 7)))),
 (none, (.v (.mov 70 (.t 1)))),
 (none, (.e (.call (some 71) 40 [(.t 68), (.t 69), (.t 70)]))),
 (none, (.v (.mov 11 (.t 71))))])
 (.seq (.ops [(none, (.v (.mov 72 (.t 11)))),
 (none, (.v (.mov 73 (.t 72)))),
 ((some (73, true)), (.v (.mov 74 (.t 6)))),
 ((some (73, true)), (.v (.mov 75 (.t 7)))),
 ((some (73, true)), (.p (.idx 76 4 (.t 74) (.t 75)))),
 ((some (73, true)), (.v (.fld 77 2 (.t 76)))),
 ((some (73, true)), (.v (.load 78 false 1 (.t 77)))),
 ((some (73, true)), (.v (.not 79 (.t 78)))),
 ((some (73, true)), (.v (.mov 80 (.t 79)))),
 ((some (80, false)), (.v (.mov 81 (.t 8)))),
 ((some (73, true)), (.v (.pick 82 (.t 80) (.c (.bool true)) (.t 81)))),
 (none, (.v (.pick 83 (.t 73) (.t 82) (.c (.bool false)))))])
 (.cond 83
 (.ops [(none, (.v (.mov 84 (.t 5)))),
 (none, (.v (.mov 85 (.t 6)))),
 (none, (.v (.mov 86 (.t 7)))),
 (none, (.p (.idx 87 4 (.t 85) (.t 86)))),
 (none, (.v (.load 88 true 4 (.t 87)))),
 (none, (.e (.mkl 89 29 4 1 (.agg [(.int .i64 0), (.int .i64 0), (.bool false), (.raw (.slice none 0 0))]) [(0, (.t 88))]))),
 (none, (.e (.app 90 29 4 48 (.t 84) (.t 89)))),
 (none, (.v (.mov 5 (.t 90))))])
 .skip))))))
 (.ops [(none, (.v (.mov 18 (.t 7)))),
 (none, (.v (.bin 19 .add false (.t 18) (.c (.int .i64 1))))),
 (none, (.v (.mov 7 (.t 19))))]))))))
 (.seq (.ops [(none, (.v (.mov 91 (.t 5)))),
 (none, (.v (.mov 4 (.t 91))))])
 .ret)))))
theorem ok27 : FnOk E 27 92 [.tmp 4] mc27 := .of func27 (by kernel_rfl) (by kernel_rfl) (by kernel_rfl) (by kernel_rfl) (by kernel_rfl)
end Go.Proofs.Try
namespace Go.Proofs.Try
open Go.Al
set_option linter.unusedVariables false
set_option linter.unusedSimpArgs false
set_option maxRecDepth 20000

/-- What Trim keeps. -/
def hasN (o a : List Ver) (i : Nat) : Bool := match o.getLast? with
  | none => false
  | some v => decide (v.row = (a.getD i default).row) && (!v.dead || (decide (i + 1 = a.length) || decide ((a.getD (i + 1) default).row ≠ (a.getD i default).row)))
def trimN (a : List Ver) (snaps : List Int) : Nat → List Ver
  | 0 => []
  | i + 1 => if seenB a i snaps = true ∧ ((a.getD i default).dead = false ∨ hasN (trimN a snaps i) a i = true) then trimN a snaps i ++ [a.getD i default] else trimN a snaps i
theorem trimN_le (a : List Ver) (snaps : List Int) : ∀ i, (trimN a snaps i).length ≤ i
  | 0 => by simp [trimN]
  | i + 1 => by
    have := trimN_le a snaps i
    simp only [trimN]
    split <;> simp <;> omega
def refTrim (l : List Ver) (snaps : List Int) : List Ver := trimN (ordered l) snaps (ordered l).length
set_option maxHeartbeats 2000000 in
theorem c27 (l : List Ver) (snaps : List Int) (h60 : l.length ≤ 1048576) : ACalls E.P 27 [.view 4 (l.map Ver.av), .view 1 (snaps.map (AV.int .i64))] [] (fun r H => r = .slc 0 4 (refTrim l snaps).length ∧ H = [.arr 29 4 ((refTrim l snaps).map Ver.av)]) := by
  have hmax := maxLen_eq
  have hol := ordered_length l
  have h34 := lendV (l := ordered l) (by rw [hol]; exact c34 l h60)
  refine ok27.acalls hE hm (by simp) fun N hN => ?_
  unfold mc27
  simp only [lA, ptrCells, ptrAdd, isNil, readsV, readsP, isCall, wrote, srcOf, seval]
  repeat' (first
   | (with_reducible apply St.o; constructor) <;> intro _
   | with_reducible first | refine LenR_i fun _ => ?_ | refine And.intro (by omega) ?_ | (apply Sp.o; constructor) | refine mkl_own ?_ | refine frz0_i ?_
   | ((with_reducible apply Sc.o false; constructor); simp only [lP, seval]; refine ⟨_, h34, ?_⟩; rintro _ _ ⟨rfl, rfl⟩; simp only [lA, lP, ptrCells, ptrAdd, isNil, readsV, readsP, isCall, wrote, srcOf, seval])
   | ((with_reducible refine keep0_i ?_); simp only [lP, seval])
   | simp (maxSteps := 1000000) (disch := omega) only [lE, ptrCells, ptrAdd, isNil, readsV, readsP, isCall, wrote, srcOf, seval])
  unfold refTrim
  generalize ordered l = a at *
  refine loop_i (fun i : Nat => i ≤ a.length) (fun i => ⟨[(1, .view 1 (snaps.map (AV.int .i64))), (5, .slc 0 4 (trimN a snaps i).length), (6, .view 4 (a.map Ver.av)), (7, .int .i64 i)], [.arr 29 4 ((trimN a snaps i).map Ver.av)]⟩) (fun i => a.length - i) 0 (by omega)
    (Ent.ghost' 5 29 4 (by omega) rfl (Ent.to [0] false (by simp) (by simp) rfl (by simp only [lP, seval, trimN, List.map_nil, List.length_nil] <;> (try simp) <;> (try omega)) (by simp only [lP, seval, trimN, List.map_nil, List.length_nil] <;> (try simp) <;> (try omega)))) ?_
  intro i hi
  have hlen := trimN_le a snaps i
  have hT : seenB a i snaps = true ∧ ((a.getD i default).dead = false ∨ hasN (trimN a snaps i) a i = true) → trimN a snaps (i + 1) = trimN a snaps i ++ [a.getD i default] := fun h => if_pos h
  have hF : ¬(seenB a i snaps = true ∧ ((a.getD i default).dead = false ∨ hasN (trimN a snaps i) a i = true)) → trimN a snaps (i + 1) = trimN a snaps i := fun h => if_neg h
  have hend : a.length ≤ i → trimN a snaps a.length = trimN a snaps i := fun h => by rw [show i = a.length by omega]
  generalize trimN a snaps i = o at *
  by_cases hil : i < a.length
  · have h40 := c40 a i snaps hil
    generalize seenB a i snaps = sb at *
    have hH : ∀ x : Ver, o.getLast? = some x → (hasN o a i = true ↔ x.row = (a.getD i default).row ∧ (x.dead = false ∨ (i + 1 = a.length ∨ (a.getD (i + 1) default).row ≠ (a.getD i default).row))) := fun x hl => by
      simp only [hasN, hl, Bool.and_eq_true, Bool.or_eq_true, decide_eq_true_eq, Bool.not_eq_true']
    rcases hv : a.getD i default with ⟨vr, vs, vd, vv⟩
    simp only [hv] at hT hF hH
    have hvc : ∀ w : Ver, w.av = .agg w.cs := fun _ => rfl
    rcases List.eq_nil_or_concat o with hn | ⟨o', x, hn⟩
    · subst hn
      have hh : hasN [] a i = false := rfl
      rw [hh] at hT hF
      cases vd <;> cases sb
      all_goals (
        repeat' (first
         | (with_reducible apply St.o; constructor) <;> intro _
         | with_reducible first | refine LenR_i fun _ => ?_ | refine And.intro (by omega) ?_ | (apply Sp.o; constructor) | refine mkl_own ?_ | refine frz0_i ?_ | refine any_i [] ?_
         | ((with_reducible apply Sc.o true; constructor); simp only [lP, seval, hv, IdxR_vers, Int.toNat_natCast, List.length_map, List.length_append, List.length_cons, List.length_nil, List.map_nil, Int.ofNat_zero]; refine ⟨_, h40, ?_⟩; rintro _ _ ⟨rfl, rfl⟩; simp only [lA, lP, ptrCells, ptrAdd, isNil, readsV, readsP, isCall, wrote, srcOf, seval, hv, IdxR_vers, Int.toNat_natCast, List.length_map, List.length_append, List.length_cons, List.length_nil, List.map_nil, Int.ofNat_zero])
         | simp (maxSteps := 1000000) (disch := omega) only [lE, ptrCells, ptrAdd, isNil, readsV, readsP, isCall, wrote, srcOf, seval, hv, IdxR_vers, Int.toNat_natCast, List.length_map, List.length_append, List.length_cons, List.length_nil, List.map_nil, Int.ofNat_zero])
        )
      all_goals try (exfalso; omega)
      all_goals first
        | (have e := hT ⟨rfl, .inl rfl⟩
           exact back_i (i + 1) (by omega) (by omega) (Ent.to [2] false (by simp) (by simp) rfl (by simp only [lP, seval, e, List.map_append, List.map_cons, List.map_nil, List.length_append, List.length_cons, List.length_nil, List.nil_append, pa_vers, ver_av, pa_agg] <;> (try simp) <;> (try omega)) (by simp only [lP, seval, e, List.map_append, List.map_cons, List.map_nil, List.length_append, List.length_cons, List.length_nil, List.nil_append, pa_vers, ver_av, pa_agg] <;> (try simp) <;> (try omega))))
        | (have e := hF (by simp)
           exact back_i (i + 1) (by omega) (by omega) (Ent.to [0] false (by simp) (by simp) rfl (by simp only [lP, seval, e, List.map_nil, List.length_nil] <;> (try simp) <;> (try omega)) (by simp only [lP, seval, e, List.map_nil, List.length_nil] <;> (try simp) <;> (try omega))))
    · have hx : (o.map Ver.av)[((o.length : Int) - 1).toNat]? = some x.av := by
        rw [hn]; simp
      have hpos : 0 < o.length := by rw [hn]; simp
      have hhas := hH x (by rw [hn]; simp)
      clear hH hn
      obtain ⟨xr, xs, xd, xv⟩ := x
      simp only at hhas
      have hmin : ¬(i + 1 = a.length) → (if (a.length : Int) - 1 < (i : Int) + 1 then (a.length : Int) - 1 else (i : Int) + 1) = ((i + 1 : Nat) : Int) := fun h => by rw [if_neg (by omega)]; rfl
      generalize hnr : (a.getD (i + 1) default) = nv at hhas
      by_cases hnx : i + 1 = a.length
      · have hnx' : ((i : Int) + 1 = a.length) = True := by simp; omega
        cases vd <;> cases xd <;> cases sb
        all_goals (
          repeat' (first
           | (with_reducible apply St.o; constructor) <;> intro _
           | with_reducible first | refine LenR_i fun _ => ?_ | refine And.intro (by omega) ?_ | (apply Sp.o; constructor) | refine mkl_own ?_ | refine frz0_i ?_ | refine any_i [] ?_
           | ((with_reducible apply Sc.o true; constructor); simp only [lP, seval, hv, hnx', IdxR_vers, Int.toNat_natCast, List.length_map, List.length_append, List.length_cons, List.length_nil, epR_map, hx, ver_av]; refine ⟨_, h40, ?_⟩; rintro _ _ ⟨rfl, rfl⟩; simp only [lA, lP, ptrCells, ptrAdd, isNil, readsV, readsP, isCall, wrote, srcOf, seval, hv, hnx', IdxR_vers, Int.toNat_natCast, List.length_map, List.length_append, List.length_cons, List.length_nil, epR_map, hx, ver_av])
           | simp (maxSteps := 1000000) (disch := omega) only [lE, ptrCells, ptrAdd, isNil, readsV, readsP, isCall, wrote, srcOf, seval, hv, hnx', IdxR_vers, Int.toNat_natCast, List.length_map, List.length_append, List.length_cons, List.length_nil, epR_map, hx, ver_av])
          )
        all_goals try (exfalso; omega)
        all_goals first
          | (have e := hT ⟨rfl, by first | exact .inl rfl | exact .inr (hhas.2 ⟨by assumption, .inr (.inl hnx)⟩)⟩
             exact back_i (i + 1) (by omega) (by omega) (Ent.to [3] false (by simp) (by simp) rfl (by simp only [lP, seval, e, List.map_append, List.map_cons, List.map_nil, List.length_append, List.length_cons, List.length_nil, pa_vers, ver_av, pa_agg] <;> (try simp) <;> (try omega)) (by simp only [lP, seval, e, List.map_append, List.map_cons, List.map_nil, List.length_append, List.length_cons, List.length_nil, pa_vers, ver_av, pa_agg] <;> (try simp) <;> (try omega))))
          | (have e := hF (fun ⟨p, q⟩ => by first | exact absurd p Bool.false_ne_true | (rcases q with q | q <;> first | exact absurd q.symm Bool.false_ne_true | exact absurd (hhas.1 q).1 (by assumption)))
             exact back_i (i + 1) (by omega) (by omega) (Ent.to [0] false (by simp) (by simp) rfl (by simp only [lP, seval, e, pa_vers] <;> (try simp) <;> (try omega)) (by simp only [lP, seval, e, pa_vers] <;> (try simp) <;> (try omega))))
      · have hnx' : ((i : Int) + 1 = a.length) = False := by simp; omega
        have hmin := hmin hnx
        cases vd <;> cases xd <;> cases sb
        all_goals (
          repeat' (first
           | (with_reducible apply St.o; constructor) <;> intro _
           | with_reducible first | refine LenR_i fun _ => ?_ | refine And.intro (by omega) ?_ | (apply Sp.o; constructor) | refine mkl_own ?_ | refine frz0_i ?_ | refine any_i [] ?_
           | ((with_reducible apply Sc.o true; constructor); simp only [lP, seval, hv, hnr, hnx', hmin, IdxR_vers, Int.toNat_natCast, List.length_map, List.length_append, List.length_cons, List.length_nil, epR_map, hx, ver_av]; refine ⟨_, h40, ?_⟩; rintro _ _ ⟨rfl, rfl⟩; simp only [lA, lP, ptrCells, ptrAdd, isNil, readsV, readsP, isCall, wrote, srcOf, seval, hv, hnr, hnx', hmin, IdxR_vers, Int.toNat_natCast, List.length_map, List.length_append, List.length_cons, List.length_nil, epR_map, hx, ver_av])
           | simp (maxSteps := 1000000) (disch := omega) only [lE, ptrCells, ptrAdd, isNil, readsV, readsP, isCall, wrote, srcOf, seval, hv, hnr, hnx', hmin, IdxR_vers, Int.toNat_natCast, List.length_map, List.length_append, List.length_cons, List.length_nil, epR_map, hx, ver_av])
          )
        all_goals try (exfalso; omega)
        all_goals first
          | (have e := hT ⟨rfl, by first | exact .inl rfl | exact .inr (hhas.2 ⟨by assumption, .inl rfl⟩) | exact .inr (hhas.2 ⟨by assumption, .inr (.inr (by assumption))⟩)⟩
             exact back_i (i + 1) (by omega) (by omega) (Ent.to [3] false (by simp) (by simp) rfl (by simp only [lP, seval, e, List.map_append, List.map_cons, List.map_nil, List.length_append, List.length_cons, List.length_nil, pa_vers, ver_av, pa_agg] <;> (try simp) <;> (try omega)) (by simp only [lP, seval, e, List.map_append, List.map_cons, List.map_nil, List.length_append, List.length_cons, List.length_nil, pa_vers, ver_av, pa_agg] <;> (try simp) <;> (try omega))))
          | (have e := hF (fun ⟨p, q⟩ => by
               first
               | exact absurd p Bool.false_ne_true
               | (rcases q with q | q
                  · exact absurd q.symm Bool.false_ne_true
                  · obtain ⟨q1, q2⟩ := hhas.1 q
                    first
                    | exact absurd q1 (by assumption)
                    | (rcases q2 with q2 | q2 | q2
                       · exact absurd q2.symm Bool.false_ne_true
                       · exact hnx q2
                       · exact absurd (by assumption) q2)))
             exact back_i (i + 1) (by omega) (by omega) (Ent.to [0] false (by simp) (by simp) rfl (by simp only [lP, seval, e, pa_vers] <;> (try simp) <;> (try omega)) (by simp only [lP, seval, e, pa_vers] <;> (try simp) <;> (try omega))))
  · have hx : ((i : Int) < a.length) = False := by simp; omega
    repeat' (first
     | (with_reducible apply St.o; constructor) <;> intro _
     | with_reducible first | refine LenR_i fun _ => ?_ | refine And.intro (by omega) ?_ | (apply Sp.o; constructor) | refine mkl_own ?_ | refine frz0_i ?_
     | simp (maxSteps := 1000000) (disch := omega) only [lE, ptrCells, ptrAdd, isNil, readsV, readsP, isCall, wrote, srcOf, seval, hx, List.length_map, if_false, decide_false])
    rw [hend (by omega)]
    exact keep_i [0] false (by simp) (by simp) rfl ⟨by simp only [lP, seval], by simp only [lP, seval, pa_vers]⟩
end Go.Proofs.Try

/-
  A part of the proof: see the text of the law.
-/
import Derived.Test.YtlkmgeahdidjeaaEau
import Derived.Test.YtlkmgeahdidjeaaAlphaK
set_option linter.unusedSimpArgs false
set_option linter.unusedVariables false
namespace Go.Proofs.Try
open Go.Al
set_option maxRecDepth 100000
/-- alum/alumref25.Add -/
def mc29 : MC :=
 (.seq (.ops [(none, (.v (.mov 6 (.c (.raw (.slice none 0 0)))))),
 (none, (.v (.mov 7 (.c (.int .i64 0)))))])
 (.seq (.seq (.ops [(none, (.v (.mov 12 (.t 1)))),
 (none, (.v (.mov 13 (.t 0)))),
 (none, (.e (.call (some 14) 16 [(.t 13)]))),
 (none, (.v (.bin 15 .leq false (.t 12) (.t 14)))),
 (none, (.v (.mov 16 (.t 15)))),
 ((some (16, false)), (.v (.mov 17 (.t 1)))),
 ((some (16, false)), (.v (.bin 18 .gtr false (.t 17) (.c (.int .i64 1073741824))))),
 (none, (.v (.pick 19 (.t 16) (.c (.bool true)) (.t 18))))])
 (.cond 19
 (.seq (.ops [(none, (.v (.mov 6 (.c (.raw (.slice none 0 0)))))),
 (none, (.v (.mov 7 (.c (.int .i64 1)))))])
 .ret)
 .skip))
 (.seq (.seq (.ops [(none, (.v (.mov 8 (.c (.int .i64 0)))))])
 (.block 0 (.loop (.seq (.seq (.ops [(none, (.v (.mov 20 (.t 8)))),
 (none, (.v (.mov 21 (.t 2)))),
 (none, (.p (.len 22 (.t 21)))),
 (none, (.v (.bin 23 .lss false (.t 20) (.t 22))))])
 (.cond 23
 .skip
 (.exit 0)))
 (.seq (.block 1 (.seq (.ops [(none, (.v (.mov 26 (.t 2)))),
 (none, (.v (.mov 27 (.t 8)))),
 (none, (.p (.idx 28 4 (.t 26) (.t 27)))),
 (none, (.v (.fld 29 1 (.t 28)))),
 (none, (.v (.load 30 false 1 (.t 29)))),
 (none, (.v (.bin 31 .lss false (.t 30) (.c (.int .i64 1))))),
 (none, (.v (.mov 32 (.t 31)))),
 ((some (32, false)), (.v (.mov 33 (.t 2)))),
 ((some (32, false)), (.v (.mov 34 (.t 8)))),
 ((some (32, false)), (.p (.idx 35 4 (.t 33) (.t 34)))),
 ((some (32, false)), (.v (.fld 36 1 (.t 35)))),
 ((some (32, false)), (.v (.load 37 false 1 (.t 36)))),
 ((some (32, false)), (.v (.bin 38 .gtr false (.t 37) (.c (.int .i64 1073741824))))),
 (none, (.v (.pick 39 (.t 32) (.c (.bool true)) (.t 38)))),
 (none, (.v (.mov 40 (.t 39)))),
 ((some (40, false)), (.v (.mov 41 (.t 2)))),
 ((some (40, false)), (.v (.mov 42 (.t 8)))),
 ((some (40, false)), (.p (.idx 43 4 (.t 41) (.t 42)))),
 ((some (40, false)), (.v (.fld 44 2 (.t 43)))),
 ((some (40, false)), (.v (.load 45 false 1 (.t 44)))),
 ((some (40, false)), (.v (.mov 46 (.t 45)))),
 ((some (46, true)), (.v (.mov 47 (.t 2)))),
 ((some (46, true)), (.v (.mov 48 (.t 8)))),
 ((some (46, true)), (.p (.idx 49 4 (.t 47) (.t 48)))),
 ((some (46, true)), (.v (.fld 50 3 (.t 49)))),
 ((some (46, true)), (.v (.load 51 false 1 (.t 50)))),
 ((some (46, true)), (.p (.len 52 (.t 51)))),
 ((some (46, true)), (.v (.bin 53 .gtr false (.t 52) (.c (.int .i64 0))))),
 ((some (40, false)), (.v (.pick 54 (.t 46) (.t 53) (.c (.bool false))))),
 (none, (.v (.pick 55 (.t 40) (.c (.bool true)) (.t 54))))])
 (.cond 55
 (.seq (.ops [(none, (.v (.mov 6 (.c (.raw (.slice none 0 0)))))),
 (none, (.v (.mov 7 (.c (.int .i64 1)))))])
 .ret)
 .skip)))
 (.ops [(none, (.v (.mov 24 (.t 8)))),
 (none, (.v (.bin 25 .add false (.t 24) (.c (.int .i64 1))))),
 (none, (.v (.mov 8 (.t 25))))]))))))
 (.seq (.ops [(none, (.e (.mkl 56 29 4 0 (.agg [(.int .i64 0), (.int .i64 0), (.bool false), (.raw (.slice none 0 0))]) []))),
 (none, (.v (.mov 57 (.t 0)))),
 (none, (.e (.app 58 29 4 48 (.t 56) (.t 57)))),
 (none, (.v (.mov 9 (.t 58))))])
 (.seq (.seq (.ops [(none, (.v (.mov 10 (.c (.int .i64 0)))))])
 (.block 2 (.loop (.seq (.seq (.ops [(none, (.v (.mov 59 (.t 10)))),
 (none, (.v (.mov 60 (.t 2)))),
 (none, (.p (.len 61 (.t 60)))),
 (none, (.v (.bin 62 .lss false (.t 59) (.t 61))))])
 (.cond 62
 .skip
 (.exit 2)))
 (.seq (.block 3 (.seq (.seq (.ops [(none, (.v (.mov 11 (.c (.int .i64 0)))))])
 (.block 4 (.loop (.seq (.seq (.ops [(none, (.v (.mov 65 (.t 11)))),
 (none, (.v (.mov 66 (.t 10)))),
 (none, (.v (.bin 67 .lss false (.t 65) (.t 66))))])
 (.cond 67
 .skip
 (.exit 4)))
 (.seq (.block 5 (.seq (.any false (.pure0 none (.v (.mov 70 (.t 2)))
 (.pure0 none (.v (.mov 71 (.t 10)))
 (.pure0 none (.p (.idx 72 4 (.t 70) (.t 71)))
 (.pure0 none (.v (.fld 73 1 (.t 72)))
 (.pure0 none (.v (.load 74 false 1 (.t 73)))
 (.pure0 none (.v (.mov 75 (.t 2)))
 (.pure0 none (.v (.mov 76 (.t 11)))
 (.pure0 none (.p (.idx 77 4 (.t 75) (.t 76)))
 (.pure0 none (.v (.fld 78 1 (.t 77)))
 (.pure0 none (.v (.load 79 false 1 (.t 78)))
 (.pure0 none (.v (.bin 80 .eql false (.t 74) (.t 79)))
 .done))))))))))))
 (.cond 80
 (.seq (.ops [(none, (.v (.mov 6 (.c (.raw (.slice none 0 0)))))),
 (none, (.v (.mov 7 (.c (.int .i64 6)))))])
 .ret)
 .skip)))
 (.ops [(none, (.v (.mov 68 (.t 11)))),
 (none, (.v (.bin 69 .add false (.t 68) (.c (.int .i64 1))))),
 (none, (.v (.mov 11 (.t 69))))]))))))
 (.any true (.pure0 none (.v (.mov 81 (.t 9)))
 (.pure0 none (.v (.mov 82 (.t 2)))
 (.pure0 none (.v (.mov 83 (.t 10)))
 (.pure0 none (.p (.idx 84 4 (.t 82) (.t 83)))
 (.pure0 none (.v (.fld 85 1 (.t 84)))
 (.pure0 none (.v (.load 86 false 1 (.t 85)))
 (.pure0 none (.v (.mov 87 (.t 1)))
 (.pure0 none (.v (.mov 88 (.t 2)))
 (.pure0 none (.v (.mov 89 (.t 10)))
 (.pure0 none (.p (.idx 90 4 (.t 88) (.t 89)))
 (.pure0 none (.v (.fld 91 2 (.t 90)))
 (.pure0 none (.v (.load 92 false 1 (.t 91)))
 (.pure0 none (.v (.mov 93 (.t 2)))
 (.pure0 none (.v (.mov 94 (.t 10)))
 (.pure0 none (.p (.idx 95 4 (.t 93) (.t 94)))
 (.pure0 none (.v (.fld 96 3 (.t 95)))
 (.pure0 none (.v (.load 97 false 1 (.t 96)))
 (.pure0 none (.v (.build 98 [(.int .i64 0), (.int .i64 0), (.bool false), (.raw (.slice none 0 0))] [(0, 1, (.t 86)), (1, 1, (.t 87)), (2, 1, (.t 92)), (3, 1, (.t 97))]))
 (.alt none (.e (.mkl 99 29 4 1 (.agg [(.int .i64 0), (.int .i64 0), (.bool false), (.raw (.slice none 0 0))]) [(0, (.t 98))]))
 (.alt none (.e (.app 100 29 4 48 (.t 81) (.t 99)))
 (.pure1 none (.v (.mov 9 (.t 100)))
 .done)
 .stop)
 .stop))))))))))))))))))))))
 (.ops [(none, (.v (.mov 63 (.t 10)))),
 (none, (.v (.bin 64 .add false (.t 63) (.c (.int .i64 1))))),
 (none, (.v (.mov 10 (.t 64))))]))))))
 (.seq (.ops [(none, (.v (.mov 101 (.t 9)))),
 (none, (.e (.call (some 102) 34 [(.t 101)]))),
 (none, (.v (.mov 6 (.t 102)))),
 (none, (.v (.mov 7 (.c (.int .i64 0)))))])
 .ret))))))
theorem ok29 : FnOk E 29 103 [.tmp 6, .tmp 7] mc29 := .of func29 (by kernel_rfl) (by kernel_rfl) (by kernel_rfl) (by kernel_rfl) (by kernel_rfl)
end Go.Proofs.Try
namespace Go.Proofs.Try
open Go.Al
set_option linter.unusedVariables false
set_option linter.unusedSimpArgs false
set_option maxRecDepth 20000
set_option maxHeartbeats 8000000

theorem row_at {w : List Wr} {j : Nat} {r : Int} (h : ∃ a, a ∈ w.take j ∧ a.row = r) : ∃ m, m < j ∧ (w.getD m default).row = r := by
  obtain ⟨a, ha, rfl⟩ := h
  obtain ⟨m, hm⟩ := List.getElem?_of_mem ha
  rw [List.getElem?_take] at hm
  split at hm
  · rename_i hmj
    exact ⟨m, hmj, by rw [List.getD_eq_getElem?_getD, hm, Option.getD_some]⟩
  · cases hm
theorem pa_toV {H : List AObj} {l : List Nat} {bor : Bool} {n : Nat} {s : Int} {xs : List Wr} : (xs.map (Ver.av ∘ Wr.toV s)).map (pa H l bor (n + 1)) = xs.map (Ver.av ∘ Wr.toV s) := map_same (fun x => pa_ver _) xs
theorem c29 (l : List Ver) (s : Int) (w : List Wr) (h60 : l.length ≤ 1000000) (hw : w.length ≤ 40000) : ACalls E.P 29 [.view 4 (l.map Ver.av), .int .i64 s, .view 4 (w.map Wr.av)] [] (fun r H => r = .tup [.view 4 ((addL l s w).map Ver.av), .int .i64 (addE l s w)] ∧ H = []) := by
  have hmax := maxLen_eq
  have h16 := c16 l
  refine ok29.acalls hE hm (by simp) fun N hN => ?_
  unfold mc29
  simp only [lA, ptrCells, ptrAdd, isNil, readsV, readsP, isCall, wrote, srcOf, seval]
  have bad : addE l s w = 1 → keepQ 0 (fun r H => r = .tup [.view 4 ((addL l s w).map Ver.av), .int .i64 (addE l s w)] ∧ H = []) (.tup [.raw (.slice none 0 0), .int .i64 1]) [] := fun h => keepne_i 4 ⟨by rw [addL, h, if_neg (by decide)]; rfl, by simp only [lP, seval]⟩
  repeat' (first
   | (with_reducible apply St.o; constructor) <;> intro _
   | with_reducible first | refine LenR_i fun _ => ?_ | refine And.intro (by omega) ?_ | (apply Sp.o; constructor) | refine mkl_own ?_ | refine frz0_i ?_
   | ((with_reducible apply Sc.o true; constructor); simp only [lP, seval]; refine ⟨_, h16, ?_⟩; rintro _ _ ⟨rfl, rfl⟩; simp only [lA, lP, ptrCells, ptrAdd, isNil, readsV, readsP, isCall, wrote, srcOf, seval])
   | simp (maxSteps := 1000000) (disch := omega) only [lE, ptrCells, ptrAdd, isNil, readsV, readsP, isCall, wrote, srcOf, seval])
  all_goals try (refine bad ?_; first | (rw [addE, if_pos (.inl (by omega))]; done) | (rw [addE, if_pos (.inr (by omega))]; done))
  rename_i g1 g2
  have hA : addE l s w = if ∀ x ∈ w, okW x then (if (w.map Wr.row).Nodup then 0 else 6) else 1 := if_neg (by omega)
  refine loop_i (fun i : Nat => i ≤ w.length ∧ ∀ x ∈ w.take i, okW x) (fun i => ⟨[(0, .view 4 (l.map Ver.av)), (1, .int .i64 s), (2, .view 4 (w.map Wr.av)), (8, .int .i64 i)], []⟩) (fun i => w.length - i) 0 ⟨by omega, by simp⟩ (Ent.to [] false (by simp) (by simp) rfl (by simp only [lP, seval, List.length_map] <;> (try simp) <;> (try omega)) (by simp only [lP, seval, List.length_map] <;> (try simp) <;> (try omega))) ?_
  rintro i ⟨hi, ha⟩
  repeat' (first
   | (with_reducible apply St.o; constructor) <;> intro _
   | with_reducible first | refine LenR_i fun _ => ?_ | refine And.intro (by omega) ?_ | (apply Sp.o; constructor) | refine mkl_own ?_ | refine frz0_i ?_
   | simp (maxSteps := 1000000) (disch := omega) only [lE, ptrCells, ptrAdd, isNil, readsV, readsP, isCall, wrote, srcOf, seval, IdxR_wrs, Int.toNat_natCast, List.length_map])
  all_goals try (
    have hb : ¬ ∀ x ∈ w, okW x := by
      refine badW (i := i) (by omega) (fun ⟨h1, h2, h3⟩ => ?_)
      first
      | omega
      | (have e := congrArg List.length (h3 (by assumption)); simp only [List.length_nil] at e; omega)
    exact bad (by rw [hA, if_neg hb]))
  all_goals try (
    have hok : okW (w.getD i default) := ⟨by omega, by omega, fun h => by
      first
      | exact List.eq_nil_of_length_eq_zero (by omega)
      | (have g : (w.getD i default).dead = !true := by assumption
         rw [h] at g
         exact absurd g (by simp))⟩
    exact back_i (i + 1) ⟨by omega, okW_next (by omega) ha hok⟩ (by omega) (Ent.to [] false (by simp) (by simp) rfl (by simp only [lP, seval] <;> (try simp) <;> (try omega)) (by simp only [lP, seval] <;> (try simp) <;> (try omega))))
  rename_i g3
  rw [List.take_of_length_le (by omega)] at ha
  replace hA : addE l s w = if (w.map Wr.row).Nodup then 0 else 6 := by rw [hA, if_pos ha]
  refine loop_i (fun j : Nat => j ≤ w.length ∧ ((w.take j).map Wr.row).Nodup) (fun j => ⟨[(0, .view 4 (l.map Ver.av)), (1, .int .i64 s), (2, .view 4 (w.map Wr.av)), (9, .slc 0 4 (l.length + j)), (10, .int .i64 j)], [.arr 29 4 ((l ++ (w.take j).map (Wr.toV s)).map Ver.av)]⟩) (fun j => w.length - j) 0 ⟨by omega, by simp⟩ (Ent.to [1] false (by simp) (by simp) rfl (by simp only [lP, seval, List.length_map, List.take_zero, List.map_nil, List.append_nil, pa_vers] <;> (try simp) <;> (try omega)) (by simp only [lP, seval, List.length_map, List.take_zero, List.map_nil, List.append_nil, pa_vers] <;> (try simp) <;> (try omega))) ?_
  rintro j ⟨hj, hn⟩
  have hjl : ((l ++ (w.take j).map (Wr.toV s)).map Ver.av).length = l.length + j := by simp; omega
  repeat' (first
   | (with_reducible apply St.o; constructor) <;> intro _
   | with_reducible first | refine LenR_i fun _ => ?_ | refine And.intro (by omega) ?_ | (apply Sp.o; constructor) | refine mkl_own ?_ | refine frz0_i ?_
   | simp (maxSteps := 1000000) (disch := omega) only [lE, ptrCells, ptrAdd, isNil, readsV, readsP, isCall, wrote, srcOf, seval, IdxR_wrs, Int.toNat_natCast, List.length_map])
  · rename_i g4
    have hjl4 : j < w.length := by omega
    have hA6 : ∀ k, k < j → (w.getD j default).row = (w.getD k default).row → addE l s w = 6 := fun k hk he => by
      rw [hA, if_neg (fun hnn => ?_)]
      rw [List.nodup_iff_pairwise_ne, List.pairwise_map] at hnn
      have := List.pairwise_iff_getElem.1 hnn k j (by omega) hjl4 hk
      simp [hjl4, show k < w.length by omega] at he
      exact this he.symm
    refine loop_i (fun k : Nat => k ≤ j ∧ ∀ m, m < k → ¬(w.getD j default).row = (w.getD m default).row) (fun k => ⟨[(0, .view 4 (l.map Ver.av)), (1, .int .i64 s), (2, .view 4 (w.map Wr.av)), (9, .slc 0 4 (l.length + j)), (10, .int .i64 j), (11, .int .i64 k)], [.arr 29 4 ((l ++ (w.take j).map (Wr.toV s)).map Ver.av)]⟩) (fun k => j - k) 0 ⟨by omega, fun m hm => by omega⟩ (Ent.to [0] false (by simp) (by simp) rfl (by simp only [lP, seval, pa_vers] <;> (try simp) <;> (try omega)) (by simp only [lP, seval, pa_vers] <;> (try simp) <;> (try omega))) ?_
    rintro k ⟨hk, hall⟩
    have e := take_succD hjl4
    repeat' (first
     | (with_reducible apply St.o; constructor) <;> intro _
     | with_reducible first | refine LenR_i fun _ => ?_ | refine And.intro (by omega) ?_ | (apply Sp.o; constructor) | refine mkl_own ?_ | refine frz0_i ?_
     | with_reducible refine any_i [0] ?_
     | simp (maxSteps := 1000000) (disch := omega) only [lE, ptrCells, ptrAdd, isNil, readsV, readsP, isCall, wrote, srcOf, seval, IdxR_wrs, Int.toNat_natCast, List.length_map, List.length_append, List.length_take, Nat.min_eq_left hj, List.mem_singleton])
    · rename_i g5 g6
      exact keepne_i 4 ⟨by rw [addL, hA6 k (by omega) g6, if_neg (by decide)]; rfl, by simp only [lP, seval]⟩
    · rename_i g5 g6
      exact back_i (k + 1) ⟨by omega, fun m hm => by
        by_cases hmk : m = k
        · rw [hmk]; exact g6
        · exact hall m (by omega)⟩ (by omega) (Ent.to [0] false (by simp) (by simp) rfl (by simp only [lP, seval, pa_vers] <;> (try simp) <;> (try omega)) (by simp only [lP, seval, pa_vers] <;> (try simp) <;> (try omega)))
    · rename_i g5
      have hnn : ((w.take (j + 1)).map Wr.row).Nodup := by
        rw [e, List.map_append, List.nodup_append]
        refine ⟨hn, by simp, ?_⟩
        rintro a ha b hb rfl
        simp only [List.map_cons, List.map_nil, List.mem_singleton] at hb
        obtain ⟨m, hm, hma⟩ := row_at (List.mem_map.1 ha)
        exact hall m (by omega) (by rw [← hb, hma])
      exact back_i (j + 1) ⟨by omega, hnn⟩ (by omega) (Ent.to [2] false (by simp) (by simp) rfl (by simp only [lP, seval, e, List.map_append, List.map_cons, List.map_nil, List.length_append, List.length_cons, List.length_nil, pa_vers, ver_av, pa_agg, Wr.toV, List.append_assoc, pa_toV] <;> (try simp) <;> (try omega)) (by simp only [lP, seval, e, List.map_append, List.map_cons, List.map_nil, List.length_append, List.length_cons, List.length_nil, pa_vers, ver_av, pa_agg, Wr.toV, List.append_assoc, pa_toV] <;> (try simp) <;> (try omega)))
  · rename_i g4
    have hjw : j = w.length := by omega
    rw [hjw, List.take_length] at hn
    have e0 : addE l s w = 0 := by rw [hA, if_pos hn]
    have e1 : addL l s w = ordered (l ++ w.map (Wr.toV s)) := if_pos e0
    have h34 := lendV (l := ordered (l ++ w.map (Wr.toV s))) (by rw [ordered_length]; exact c34 _ (by simp; omega))
    subst hjw
    have hz : l.length + w.length = (l ++ w.map (Wr.toV s)).length := by simp
    rw [List.take_length, hz]
    refine callZ_i [] (by simp) (by simp) ?_
    simp only [lP, seval, vw_vers]
    refine ⟨_, h34, ?_⟩
    rintro _ _ ⟨rfl, rfl⟩
    simp only [lA, lP, ptrCells, ptrAdd, isNil, readsV, readsP, isCall, wrote, srcOf, seval]
    rw [e0, e1]
    refine keep_i [] true rfl (by simp) rfl ⟨?_, ?_⟩
    · simp only [lP, seval]
    · simp only [lP, seval]
end Go.Proofs.Try

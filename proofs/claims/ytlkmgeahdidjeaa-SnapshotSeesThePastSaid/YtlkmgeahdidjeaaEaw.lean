/-
  A part of the proof: see the text of the law.
-/
import Derived.Test.YtlkmgeahdidjeaaEav
import Derived.Test.YtlkmgeahdidjeaaEat
set_option linter.unusedSimpArgs false
set_option linter.unusedVariables false
namespace Go.Proofs.Try
open Go.Al
set_option maxRecDepth 100000
/-- alum/snapshot.Add -/
def mc28 : MC :=
 (.seq (.ops [(none, (.v (.mov 6 (.c (.raw (.slice none 0 0)))))),
 (none, (.v (.mov 7 (.c (.int .i64 0)))))])
 (.seq (.seq (.ops [(none, (.v (.mov 13 (.t 1)))),
 (none, (.v (.mov 14 (.t 0)))),
 (none, (.e (.call (some 15) 15 [(.t 14)]))),
 (none, (.v (.bin 16 .leq false (.t 13) (.t 15)))),
 (none, (.v (.mov 17 (.t 16)))),
 ((some (17, false)), (.v (.mov 18 (.t 1)))),
 ((some (17, false)), (.v (.bin 19 .gtr false (.t 18) (.c (.int .i64 1073741824))))),
 (none, (.v (.pick 20 (.t 17) (.c (.bool true)) (.t 19))))])
 (.cond 20
 (.seq (.ops [(none, (.v (.mov 6 (.c (.raw (.slice none 0 0)))))),
 (none, (.v (.mov 7 (.c (.int .i64 1)))))])
 .ret)
 .skip))
 (.seq (.ops [(none, (.v (.mov 21 (.t 0)))),
 (none, (.e (.call (some 22) 41 [(.t 21)]))),
 (none, (.e (.mkmap 23))),
 (none, (.v (.mov 8 (.t 22)))),
 (none, (.v (.mov 9 (.t 23)))),
 (none, (.v (.mov 10 (.c (.bool false)))))])
 (.seq (.seq (.ops [(none, (.v (.mov 24 (.t 2)))),
 (none, (.p (.len 25 (.t 24)))),
 (none, (.v (.mov 26 (.c (.int .i64 0)))))])
 (.block 0 (.loop (.seq (.ops [(none, (.v (.bin 27 .lss false (.t 26) (.t 25))))])
 (.seq (.cond 27
 .skip
 (.exit 0))
 (.seq (.block 1 (.seq (.ops [(none, (.p (.idx 28 4 (.t 24) (.t 26)))),
 (none, (.v (.load 29 true 4 (.t 28)))),
 (none, (.e (.alloc 12 [(.int .i64 0), (.int .i64 0), (.bool false), (.raw (.slice none 0 0))]))),
 (none, (.e (.store 4 true (.t 12) (.t 29))))])
 (.seq (.seq (.ops [(none, (.v (.fld 30 1 (.t 12)))),
 (none, (.v (.load 31 false 1 (.t 30)))),
 (none, (.v (.bin 32 .lss false (.t 31) (.c (.int .i64 1))))),
 (none, (.v (.mov 33 (.t 32)))),
 ((some (33, false)), (.v (.fld 34 1 (.t 12)))),
 ((some (33, false)), (.v (.load 35 false 1 (.t 34)))),
 ((some (33, false)), (.v (.bin 36 .gtr false (.t 35) (.c (.int .i64 1073741824))))),
 (none, (.v (.pick 37 (.t 33) (.c (.bool true)) (.t 36)))),
 (none, (.v (.mov 38 (.t 37)))),
 ((some (38, false)), (.v (.fld 39 2 (.t 12)))),
 ((some (38, false)), (.v (.load 40 false 1 (.t 39)))),
 ((some (38, false)), (.v (.mov 41 (.t 40)))),
 ((some (41, true)), (.v (.fld 42 3 (.t 12)))),
 ((some (41, true)), (.v (.load 43 false 1 (.t 42)))),
 ((some (41, true)), (.p (.len 44 (.t 43)))),
 ((some (41, true)), (.v (.bin 45 .gtr false (.t 44) (.c (.int .i64 0))))),
 ((some (38, false)), (.v (.pick 46 (.t 41) (.t 45) (.c (.bool false))))),
 (none, (.v (.pick 47 (.t 38) (.c (.bool true)) (.t 46))))])
 (.cond 47
 (.seq (.ops [(none, (.v (.mov 6 (.c (.raw (.slice none 0 0)))))),
 (none, (.v (.mov 7 (.c (.int .i64 1)))))])
 .ret)
 .skip))
 (.seq (.ops [(none, (.v (.mov 48 (.t 10)))),
 (none, (.v (.mov 49 (.t 48)))),
 ((some (49, false)), (.v (.mov 50 (.t 9)))),
 ((some (49, false)), (.v (.fld 51 1 (.t 12)))),
 ((some (49, false)), (.v (.load 52 false 1 (.t 51)))),
 ((some (49, false)), (.p (.look 53 false (.int .i64) (.bool false) (.t 50) (.t 52)))),
 (none, (.v (.pick 54 (.t 49) (.c (.bool true)) (.t 53)))),
 (none, (.v (.mov 10 (.t 54))))])
 (.seq (.ops [(none, (.v (.mov 55 (.t 9)))),
 (none, (.v (.fld 56 1 (.t 12)))),
 (none, (.v (.load 57 false 1 (.t 56)))),
 (none, (.e (.mput (.int .i64) (.t 55) (.t 57) (.c (.bool true)))))])
 (.ops [(none, (.v (.mov 58 (.t 8)))),
 (none, (.v (.fld 59 1 (.t 12)))),
 (none, (.v (.load 60 false 1 (.t 59)))),
 (none, (.v (.mov 61 (.t 1)))),
 (none, (.v (.fld 62 2 (.t 12)))),
 (none, (.v (.load 63 false 1 (.t 62)))),
 (none, (.v (.fld 64 3 (.t 12)))),
 (none, (.v (.load 65 false 1 (.t 64)))),
 (none, (.v (.build 66 [(.int .i64 0), (.int .i64 0), (.bool false), (.raw (.slice none 0 0))] [(0, 1, (.t 60)), (1, 1, (.t 61)), (2, 1, (.t 63)), (3, 1, (.t 65))]))),
 (none, (.e (.mkl 67 29 4 1 (.agg [(.int .i64 0), (.int .i64 0), (.bool false), (.raw (.slice none 0 0))]) [(0, (.t 66))]))),
 (none, (.e (.app 68 29 4 48 (.t 58) (.t 67)))),
 (none, (.v (.mov 8 (.t 68))))]))))))
 (.ops [(none, (.v (.bin 69 .add false (.t 26) (.c (.int .i64 1))))),
 (none, (.v (.mov 26 (.t 69))))])))))))
 (.seq (.seq (.ops [(none, (.v (.mov 70 (.t 10))))])
 (.cond 70
 (.seq (.ops [(none, (.v (.mov 6 (.c (.raw (.slice none 0 0)))))),
 (none, (.v (.mov 7 (.c (.int .i64 6)))))])
 .ret)
 .skip))
 (.seq (.ops [(none, (.v (.mov 71 (.t 8)))),
 (none, (.e (.call (some 72) 42 [(.t 71)]))),
 (none, (.v (.mov 6 (.t 72)))),
 (none, (.v (.mov 7 (.c (.int .i64 0)))))])
 .ret))))))
theorem ok28 : FnOk E 28 73 [.tmp 6, .tmp 7] mc28 := .of func28 (by kernel_rfl) (by kernel_rfl) (by kernel_rfl) (by kernel_rfl) (by kernel_rfl)
end Go.Proofs.Try
namespace Go.Proofs.Try
open Go.Al
set_option linter.unusedVariables false
set_option linter.unusedSimpArgs false
set_option maxRecDepth 20000
set_option maxHeartbeats 8000000

theorem c41o (l : List Ver) (h60 : l.length ≤ 1048576) : ACalls E.P 41 [.view 4 (l.map Ver.av)] [] (fun r H => r = .slc 0 4 l.length ∧ H = [.arr 29 4 (l.map Ver.av)]) := by
  refine ACalls.ghost 29 4 (by omega) ?_
  cases l with
  | nil => exact c41n.mono fun r H h => h.elim (fun ⟨h1, h2⟩ => .inl ⟨h1, by rw [h2]; rfl, by rw [h2]; rfl⟩) .inr
  | cons v l => exact (c41 v l (by simp at h60; omega)).mono fun r H h => .inr h
theorem c39o (l : List Int) (h60 : l.length ≤ 1048576) : ACalls E.P 39 [.view 1 (l.map (AV.int .i64))] [] (fun r H => r = .slc 0 1 l.length ∧ H = [.arr 3 1 (l.map (AV.int .i64))]) := by
  refine ACalls.ghost 3 1 (by omega) ?_
  cases l with
  | nil => exact c39n.mono fun r H h => h.elim (fun ⟨h1, h2⟩ => .inl ⟨h1, by rw [h2]; rfl, by rw [h2]; rfl⟩) .inr
  | cons v l => exact (c39 v l (by simp at h60; omega)).mono fun r H h => .inr h
theorem pa_tsI {H : List AObj} {l : List Nat} {bor : Bool} {n : Nat} {xs : List Int} : (xs.map fun _ => AV.bool true).map (pa H l bor (n + 1)) = xs.map fun _ => AV.bool true := map_same (fun _ => by simp [pa_bool]) xs
theorem c28 (l : List Ver) (s : Int) (w : List Wr) (hd : diff l) (h60 : l.length ≤ 1000000) (hw : w.length ≤ 40000) : ACalls E.P 28 [.view 4 (l.map Ver.av), .int .i64 s, .view 4 (w.map Wr.av)] [] (fun r H => r = .tup [.view 4 ((addL l s w).map Ver.av), .int .i64 (addE l s w)] ∧ H = []) := by
  have hmax := maxLen_eq
  have h15 := c15 l
  have h41 := c41o l (by omega)
  refine ok28.acalls hE hm (by simp) fun N hN => ?_
  unfold mc28
  simp only [lA, ptrCells, ptrAdd, isNil, readsV, readsP, isCall, wrote, srcOf, seval]
  have bad : ∀ H, addE l s w = 1 → keepQ 0 (fun r H => r = .tup [.view 4 ((addL l s w).map Ver.av), .int .i64 (addE l s w)] ∧ H = []) (.tup [.raw (.slice none 0 0), .int .i64 1]) H := fun H h => keepne_i 4 ⟨by rw [addL, h, if_neg (by decide)]; rfl, by simp only [lP, seval]⟩
  repeat' (first
   | (with_reducible apply St.o; constructor) <;> intro _
   | with_reducible first | refine LenR_i fun _ => ?_ | refine And.intro (by omega) ?_ | (apply Sp.o; constructor) | refine mkl_own ?_ | refine frz0_i ?_
   | ((with_reducible apply Sc.o true; constructor); simp only [lP, seval]; refine ⟨_, h15, ?_⟩; rintro _ _ ⟨rfl, rfl⟩; simp only [lA, lP, ptrCells, ptrAdd, isNil, readsV, readsP, isCall, wrote, srcOf, seval])
   | simp (maxSteps := 1000000) (disch := omega) only [lE, ptrCells, ptrAdd, isNil, readsV, readsP, isCall, wrote, srcOf, seval])
  all_goals try (refine bad _ ?_; first | (rw [addE, if_pos (.inl (by omega))]; done) | (rw [addE, if_pos (.inr (by omega))]; done))
  rename_i g1 g2
  have hA : addE l s w = if ∀ x ∈ w, okW x then (if (w.map Wr.row).Nodup then 0 else 6) else 1 := if_neg (by omega)
  repeat' (first
   | (with_reducible apply St.o; constructor) <;> intro _
   | with_reducible first | refine LenR_i fun _ => ?_ | refine And.intro (by omega) ?_ | (apply Sp.o; constructor) | refine mkl_own ?_ | refine frz0_i ?_
   | ((with_reducible apply Sc.o false; constructor); simp only [lP, seval]; refine ⟨_, h41, ?_⟩; rintro _ _ ⟨rfl, rfl⟩; simp only [lA, lP, ptrCells, ptrAdd, isNil, readsV, readsP, isCall, wrote, srcOf, seval])
   | simp (maxSteps := 1000000) (disch := omega) only [lE, ptrCells, ptrAdd, isNil, readsV, readsP, isCall, wrote, srcOf, seval])
  refine loop_i (fun p : Nat × List Int × List Nat × Nat => p.1 ≤ w.length ∧ (∀ x ∈ w.take p.1, okW x) ∧ ∀ r, r ∈ p.2.1 ↔ r ∈ (w.take p.1).map Wr.row)
    (fun p => ⟨[(1, .int .i64 s), (8, .slc 0 4 (l.length + p.1)), (9, .mp 1), (10, .bool (dupB ((w.take p.1).map Wr.row))), (24, .view 4 (w.map Wr.av)), (25, .int .i64 w.length), (26, .int .i64 p.1)],
      [.arr 29 4 ((l ++ (w.take p.1).map (Wr.toV s)).map Ver.av), .map (p.2.1.map (AV.int .i64)) (p.2.1.map fun _ => AV.bool true) p.2.2.1 p.2.2.2]⟩) (fun p => w.length - p.1) (0, [], [], 0) ⟨by simp, by simp, by simp⟩
    (Ent.to [0, 1] false (by simp) (by simp) rfl (by simp only [lP, seval, List.length_map, List.take_zero, List.map_nil, List.append_nil, renL_vers, pa_vers, dupB, List.nodup_nil, not_true, decide_false] <;> (try simp) <;> (try omega)) (by simp only [lP, seval, List.length_map, List.take_zero, List.map_nil, List.append_nil, renL_vers, pa_vers, dupB, List.nodup_nil, not_true, decide_false] <;> (try simp) <;> (try omega))) ?_
  rintro ⟨i, K, bs, c⟩ ⟨hi, ha, hK⟩
  simp only at hi ha hK
  have hlook := look_n (r := (w.getD i default).row) (K := K)
  obtain ⟨K', bs', c', hput, hK'⟩ := put_n (r := (w.getD i default).row) (K := K) bs c
  have hlen : (l ++ (w.take i).map (Wr.toV s)).length = l.length + i := by simp; omega
  have hKd : decide ((w.getD i default).row ∈ K) = decide ((w.getD i default).row ∈ (w.take i).map Wr.row) := by simp only [hK]
  rw [hKd] at hlook
  clear hKd
  have hK2 : i < w.length → ∀ r, r ∈ K' ↔ r ∈ (w.take (i + 1)).map Wr.row := fun hil r => by rw [hK', hK, take_succD hil]; simp
  generalize hD : dupB ((w.take i).map Wr.row) = D at *
  generalize hM : decide ((w.getD i default).row ∈ (w.take i).map Wr.row) = M at *
  repeat' (first
   | (with_reducible apply St.o; constructor) <;> intro _
   | with_reducible first | refine LenR_i fun _ => ?_ | refine And.intro (by omega) ?_ | (apply Sp.o; constructor) | refine mkl_own ?_ | refine frz0_i ?_
   | simp (maxSteps := 1000000) (disch := omega) only [lE, ptrCells, ptrAdd, isNil, readsV, readsP, isCall, wrote, srcOf, seval, IdxR_wrs, Int.toNat_natCast, List.length_map, hlook, hput, hlen])
  all_goals try (
    have hb : ¬ ∀ x ∈ w, okW x := by
      refine badW (i := i) (by omega) (fun ⟨h1, h2, h3⟩ => ?_)
      first
      | omega
      | (have e := congrArg List.length (h3 (by assumption)); simp only [List.length_nil] at e; omega)
    exact bad _ (by rw [hA, if_neg hb]))
  all_goals try (
    have hok : okW (w.getD i default) := ⟨by omega, by omega, fun h => by
      first
      | exact List.eq_nil_of_length_eq_zero (by omega)
      | (have g : (w.getD i default).dead = !true := by assumption
         rw [h] at g
         exact absurd g (by simp))⟩
    have hil : i < w.length := by omega
    have e := take_succD hil
    all_goals (first
      | (rename_i q; subst q
         exact back_i (i + 1, K', bs', c') ⟨by simp only; omega, okW_next hil ha hok, hK2 hil⟩ (by simp only; omega) (Ent.to [4, 1] false (by simp) (by simp) rfl (by simp only [lP, seval, e, dup_next, hD, hM, Bool.false_or, Bool.true_or, Bool.not_false, List.map_append, List.map_cons, List.map_nil, List.length_append, List.length_cons, List.length_nil, pa_vers, ver_av, pa_agg, Wr.toV, List.append_assoc, pa_toV, pa_tsI] <;> (try simp) <;> (try omega)) (by simp only [lP, seval, e, dup_next, hD, hM, Bool.false_or, Bool.true_or, Bool.not_false, List.map_append, List.map_cons, List.map_nil, List.length_append, List.length_cons, List.length_nil, pa_vers, ver_av, pa_agg, Wr.toV, List.append_assoc, pa_toV, pa_tsI] <;> (try simp) <;> (try omega))))))
  · rename_i q1 q2
    have hiw : i = w.length := by omega
    rw [hiw, List.take_length] at hD ha
    have e6 : addE l s w = 6 := by
      rw [hA, if_pos ha, if_neg]
      rw [q2] at hD
      simpa [dupB] using hD
    exact keepne_i 4 ⟨by rw [addL, e6, if_neg (by decide)]; rfl, by simp only [lP, seval]⟩
  · rename_i q1 q2
    have hiw : i = w.length := by omega
    rw [hiw, List.take_length] at hD ha
    have hnd : (w.map Wr.row).Nodup := by
      rw [q2] at hD
      simpa [dupB] using hD
    have e0 : addE l s w = 0 := by rw [hA, if_pos ha, if_pos hnd]
    have e1 : addL l s w = ordered (l ++ w.map (Wr.toV s)) := if_pos e0
    have h42 := c42 (l ++ w.map (Wr.toV s)) (diff_new hd (by omega) hnd) (by simp; omega)
    rw [hiw]
    have hz : l.length + w.length = (l ++ w.map (Wr.toV s)).length := by simp
    rw [List.take_length, hz]
    refine callZ_i [] (by simp) (by simp) ?_
    simp only [lP, seval, vw_vers]
    refine ⟨_, h42, ?_⟩
    rintro _ _ ⟨rfl, rfl⟩
    simp only [lA, lP, ptrCells, ptrAdd, isNil, readsV, readsP, isCall, wrote, srcOf, seval]
    rw [e0, e1]
    refine keep_i [] true rfl (by simp) rfl ⟨?_, ?_⟩
    · simp only [lP, seval]
    · simp only [lP, seval]
end Go.Proofs.Try

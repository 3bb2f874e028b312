/-
  A part of the proof: see the text of the law.
-/
import Derived.Test.YtlkmgeahdidjeaaEac
set_option linter.unusedSimpArgs false
set_option linter.unusedVariables false
namespace Go.Proofs.Try
open Go.Al
set_option maxRecDepth 100000
/-- alum/alumref25.Ordered -/
def mc34 : MC :=
 (.seq (.ops [(none, (.v (.mov 2 (.c (.raw (.slice none 0 0))))))])
 (.seq (.ops [(none, (.v (.mov 3 (.c (.raw (.slice none 0 0))))))])
 (.seq (.seq (.ops [(none, (.v (.mov 4 (.c (.int .i64 0)))))])
 (.block 0 (.loop (.seq (.seq (.ops [(none, (.v (.mov 7 (.t 4)))),
 (none, (.v (.mov 8 (.t 0)))),
 (none, (.p (.len 9 (.t 8)))),
 (none, (.v (.bin 10 .lss false (.t 7) (.t 9))))])
 (.cond 10
 .skip
 (.exit 0)))
 (.seq (.block 1 (.seq (.ops [(none, (.v (.mov 13 (.t 3)))),
 (none, (.p (.len 14 (.t 13)))),
 (none, (.v (.mov 5 (.t 14))))])
 (.seq (.block 2 (.loop (.seq (.seq (.any false (.pure0 none (.v (.mov 15 (.t 5)))
 (.pure0 none (.v (.bin 16 .gtr false (.t 15) (.c (.int .i64 0))))
 (.pure0 none (.v (.mov 17 (.t 16)))
 (.pure0 (some (17, true)) (.v (.mov 18 (.t 3)))
 (.pure0 (some (17, true)) (.v (.mov 19 (.t 5)))
 (.pure0 (some (17, true)) (.v (.bin 20 .sub false (.t 19) (.c (.int .i64 1))))
 (.pure0 (some (17, true)) (.p (.idx 21 4 (.t 18) (.t 20)))
 (.pure0 (some (17, true)) (.v (.fld 22 0 (.t 21)))
 (.pure0 (some (17, true)) (.v (.load 23 false 1 (.t 22)))
 (.pure0 (some (17, true)) (.v (.mov 24 (.t 0)))
 (.pure0 (some (17, true)) (.v (.mov 25 (.t 4)))
 (.pure0 (some (17, true)) (.p (.idx 26 4 (.t 24) (.t 25)))
 (.pure0 (some (17, true)) (.v (.fld 27 0 (.t 26)))
 (.pure0 (some (17, true)) (.v (.load 28 false 1 (.t 27)))
 (.pure0 (some (17, true)) (.v (.bin 29 .gtr false (.t 23) (.t 28)))
 (.pure0 (some (17, true)) (.v (.mov 30 (.t 29)))
 (.pure0 (some (30, false)) (.v (.mov 31 (.t 3)))
 (.pure0 (some (30, false)) (.v (.mov 32 (.t 5)))
 (.pure0 (some (30, false)) (.v (.bin 33 .sub false (.t 32) (.c (.int .i64 1))))
 (.pure0 (some (30, false)) (.p (.idx 34 4 (.t 31) (.t 33)))
 (.pure0 (some (30, false)) (.v (.fld 35 0 (.t 34)))
 (.pure0 (some (30, false)) (.v (.load 36 false 1 (.t 35)))
 (.pure0 (some (30, false)) (.v (.mov 37 (.t 0)))
 (.pure0 (some (30, false)) (.v (.mov 38 (.t 4)))
 (.pure0 (some (30, false)) (.p (.idx 39 4 (.t 37) (.t 38)))
 (.pure0 (some (30, false)) (.v (.fld 40 0 (.t 39)))
 (.pure0 (some (30, false)) (.v (.load 41 false 1 (.t 40)))
 (.pure0 (some (30, false)) (.v (.bin 42 .eql false (.t 36) (.t 41)))
 (.pure0 (some (30, false)) (.v (.mov 43 (.t 42)))
 (.pure0 (some (43, true)) (.v (.mov 44 (.t 3)))
 (.pure0 (some (43, true)) (.v (.mov 45 (.t 5)))
 (.pure0 (some (43, true)) (.v (.bin 46 .sub false (.t 45) (.c (.int .i64 1))))
 (.pure0 (some (43, true)) (.p (.idx 47 4 (.t 44) (.t 46)))
 (.pure0 (some (43, true)) (.v (.fld 48 1 (.t 47)))
 (.pure0 (some (43, true)) (.v (.load 49 false 1 (.t 48)))
 (.pure0 (some (43, true)) (.v (.mov 50 (.t 0)))
 (.pure0 (some (43, true)) (.v (.mov 51 (.t 4)))
 (.pure0 (some (43, true)) (.p (.idx 52 4 (.t 50) (.t 51)))
 (.pure0 (some (43, true)) (.v (.fld 53 1 (.t 52)))
 (.pure0 (some (43, true)) (.v (.load 54 false 1 (.t 53)))
 (.pure0 (some (43, true)) (.v (.bin 55 .gtr false (.t 49) (.t 54)))
 (.pure0 (some (30, false)) (.v (.pick 56 (.t 43) (.t 55) (.c (.bool false))))
 (.pure0 (some (17, true)) (.v (.pick 57 (.t 30) (.c (.bool true)) (.t 56)))
 (.pure0 none (.v (.pick 58 (.t 17) (.t 57) (.c (.bool false))))
 .done)))))))))))))))))))))))))))))))))))))))))))))
 (.cond 58
 .skip
 (.exit 2)))
 (.block 3 (.ops [(none, (.v (.mov 59 (.t 5)))),
 (none, (.v (.bin 60 .sub false (.t 59) (.c (.int .i64 1))))),
 (none, (.v (.mov 5 (.t 60))))])))))
 (.seq (.ops [(none, (.e (.mkl 61 29 4 0 (.agg [(.int .i64 0), (.int .i64 0), (.bool false), (.raw (.slice none 0 0))]) []))),
 (none, (.v (.mov 62 (.t 3)))),
 (none, (.v (.mov 63 (.t 5)))),
 (none, (.p (.cut 64 4 (.t 62) (.t 63) none))),
 (none, (.e (.app 65 29 4 48 (.t 61) (.t 64)))),
 (none, (.v (.mov 6 (.t 65))))])
 (.seq (.any true (.pure0 none (.v (.mov 66 (.t 3)))
 (.pure0 none (.v (.mov 67 (.t 5)))
 (.pure0 none (.p (.pre 68 4 (.t 66) (some (.t 67))))
 (.pure0 none (.v (.mov 69 (.t 0)))
 (.pure0 none (.v (.mov 70 (.t 4)))
 (.pure0 none (.p (.idx 71 4 (.t 69) (.t 70)))
 (.pure0 none (.v (.load 72 true 4 (.t 71)))
 (.alt none (.e (.mkl 73 29 4 1 (.agg [(.int .i64 0), (.int .i64 0), (.bool false), (.raw (.slice none 0 0))]) [(0, (.t 72))]))
 (.alt none (.e (.app 74 29 4 48 (.t 68) (.t 73)))
 (.pure1 none (.v (.mov 3 (.t 74)))
 .done)
 .stop)
 .stop)))))))))
 (.ops [(none, (.v (.mov 75 (.t 3)))),
 (none, (.v (.mov 76 (.t 6)))),
 (none, (.e (.app 77 29 4 48 (.t 75) (.t 76)))),
 (none, (.v (.mov 3 (.t 77))))]))))))
 (.ops [(none, (.v (.mov 11 (.t 4)))),
 (none, (.v (.bin 12 .add false (.t 11) (.c (.int .i64 1))))),
 (none, (.v (.mov 4 (.t 12))))]))))))
 (.seq (.ops [(none, (.v (.mov 78 (.t 3)))),
 (none, (.v (.mov 2 (.t 78))))])
 .ret))))
theorem ok34 : FnOk E 34 79 [.tmp 2] mc34 := .of func34 (by kernel_rfl) (by kernel_rfl) (by kernel_rfl) (by kernel_rfl) (by kernel_rfl)
end Go.Proofs.Try
namespace Go.Proofs.Try
open Go.Al
set_option linter.unusedVariables false
set_option linter.unusedSimpArgs false
set_option maxRecDepth 20000

/-- Is a behind b? -/
def gtV (a b : Ver) : Bool := decide (a.row > b.row) || decide (a.row = b.row) && decide (a.stamp > b.stamp)
def insAt (o : List Ver) (v : Ver) : Nat → Nat
  | 0 => 0
  | k + 1 => if gtV (o.getD k default) v then insAt o v k else k + 1
theorem insAt_le (o : List Ver) (v : Ver) : ∀ k, insAt o v k ≤ k
  | 0 => Nat.le_refl _
  | k + 1 => by
    have := insAt_le o v k
    simp only [insAt]
    split <;> omega
def ins (o : List Ver) (v : Ver) : List Ver := o.take (insAt o v o.length) ++ v :: o.drop (insAt o v o.length)
def ordered (l : List Ver) : List Ver := l.foldl ins []
theorem ordered_next {l : List Ver} {i : Nat} (h : i < l.length) : ordered (l.take (i + 1)) = ins (ordered (l.take i)) (l.getD i default) := by
  rw [take_succD h, ordered, List.foldl_append]; rfl
theorem ins_length (o : List Ver) (v : Ver) : (ins o v).length = o.length + 1 := by
  have := insAt_le o v o.length
  simp [ins]; omega
theorem ordered_length (l : List Ver) : (ordered l).length = l.length := by
  suffices ∀ o : List Ver, (l.foldl ins o).length = o.length + l.length by simpa [ordered] using this []
  induction l with
  | nil => simp
  | cons v l ih => intro o; rw [List.foldl_cons, ih, ins_length, List.length_cons]; omega
theorem epR_map {P : Program} {m : Nat} {N : FN} {c : Kn} {α : Type} {f : α → AV} {E : TypeId} {sz0 : Nat} {xs : List α} {n : Int} {q id sz d : Nat} (h : q = xs.length) (h0 : 0 ≤ n) (h1 : n < q) : epR P m N (some (.arr E sz0 (xs.map f))) n q id sz d c = rK P m N c d (.ep id sz n.toNat 0) :=
  epR_ne (by simpa using h) h0 h1
theorem c34 (l : List Ver) (h60 : l.length ≤ 1048576) : ACalls E.P 34 [.view 4 (l.map Ver.av)] [] (fun r H => r = .slc 0 4 l.length ∧ H = [.arr 29 4 ((ordered l).map Ver.av)]) := by
  have hmax := maxLen_eq
  refine ok34.acalls hE hm (by simp) fun N hN => ?_
  unfold mc34
  simp only [lA, ptrCells, ptrAdd, isNil, readsV, readsP, isCall, wrote, srcOf, seval]
  refine loop_i (fun i : Nat => i ≤ l.length) (fun i => ⟨[(0, .view 4 (l.map Ver.av)), (3, .slc 0 4 i), (4, .int .i64 i)], [.arr 29 4 ((ordered (l.take i)).map Ver.av)]⟩) (fun i => l.length - i) 0 (by omega)
    (Ent.ghost' 3 29 4 (by omega) rfl (Ent.to [0] false (by simp) (by simp) rfl (by simp only [lP, seval, ordered, List.take_zero, List.foldl_nil, List.map_nil] <;> (try simp) <;> (try omega)) (by simp only [lP, seval, ordered, List.take_zero, List.foldl_nil, List.map_nil] <;> (try simp) <;> (try omega)))) ?_
  intro i hi
  have ho := ordered_length (l.take i)
  rw [List.length_take, Nat.min_eq_left hi] at ho
  generalize hoo : ordered (l.take i) = o at *
  repeat' (first
   | (with_reducible apply St.o; constructor) <;> intro _
   | with_reducible first | refine LenR_i fun _ => ?_ | refine And.intro (by omega) ?_ | (apply Sp.o; constructor) | refine mkl_own ?_ | refine frz0_i ?_
   | simp (maxSteps := 1000000) (disch := omega) only [lE, ptrCells, ptrAdd, isNil, readsV, readsP, isCall, wrote, srcOf, seval, IdxR_vers, Int.toNat_natCast, List.length_map])
  · rename_i h1
    refine loop_i (fun k : Nat => k ≤ i ∧ insAt o (l.getD i default) o.length = insAt o (l.getD i default) k) (fun k => ⟨[(0, .view 4 (l.map Ver.av)), (3, .slc 0 4 i), (4, .int .i64 i), (5, .int .i64 k)], [.arr 29 4 (o.map Ver.av)]⟩) (fun k => k) i ⟨Nat.le_refl _, by rw [ho]⟩ (Ent.to [0] false (by simp) (by simp) rfl (by simp only [lP, seval, pa_vers] <;> (try simp) <;> (try omega)) (by simp only [lP, seval, pa_vers] <;> (try simp) <;> (try omega))) ?_
    rintro k ⟨hk, he⟩
    have htk : List.take (i - k) (List.drop k (o.map Ver.av)) = (o.drop k).map Ver.av := by
      rw [List.take_of_length_le (by simp; omega), List.map_drop]
    have hki : k + (i - k) ≤ o.length := by omega
    have ht2 : List.take k (o.map Ver.av) = (o.take k).map Ver.av := by rw [List.map_take]
    have h0z : (0 : Int) = ((0 : Nat) : Int) := rfl
    have hins : insAt o (l.getD i default) o.length = k → ordered (l.take (i + 1)) = o.take k ++ l.getD i default :: o.drop k := by
      intro hh
      rw [ordered_next (by omega), hoo, ins, hh]
    cases k with
    | zero =>
      have e := hins (by rw [he]; rfl)
      have hki : i - 0 ≤ o.length := by omega
      have htk : List.take (i - 0) (o.map Ver.av) = o.map Ver.av := List.take_of_length_le (by simp; omega)
      have ht3 : List.take o.length (o.map Ver.av) = o.map Ver.av := List.take_of_length_le (by simp)
      rw [List.take_zero, List.nil_append, List.drop_zero] at e
      repeat' (first
       | (with_reducible apply St.o; constructor) <;> intro _
       | with_reducible first | refine LenR_i fun _ => ?_ | refine And.intro (by omega) ?_ | (apply Sp.o; constructor) | refine mkl_own ?_ | refine frz0_i ?_
       | with_reducible refine any_i [0] ?_
       | simp (maxSteps := 1000000) (disch := omega) only [lE, ptrCells, ptrAdd, isNil, readsV, readsP, isCall, wrote, srcOf, seval, IdxR_vers, Int.toNat_natCast, List.length_map, epR_map, hki, htk, ht2, ht3, if_true, List.length_drop, List.length_take, Int.ofNat_zero, Int.lt_irrefl, List.length_append, List.length_cons, List.length_nil])
      exact back_i (i + 1) (by omega) (by omega) (Ent.to [5] false (by simp) (by simp) rfl (by simp only [lP, seval, e, List.map_cons, pa_vers, ver_av, pa_agg, ho] <;> (try simp) <;> (try omega)) (by simp only [lP, seval, e, List.map_cons, pa_vers, ver_av, pa_agg, ho] <;> (try simp) <;> (try omega)))
    | succ k =>
      have hx : (o.map Ver.av)[(((k + 1 : Nat) : Int) - 1).toNat]? = some (Ver.av (o.getD k default)) := by
        rw [show (((k + 1 : Nat) : Int) - 1).toNat = k by omega]
        simp [show k < o.length by omega]
      have ht3 : List.take (o.length - (k + 1)) ((o.drop (k + 1)).map Ver.av) = (o.drop (k + 1)).map Ver.av := List.take_of_length_le (by simp)
      have hmin : min (k + 1) o.length = k + 1 := by omega
      repeat' (first
       | (with_reducible apply St.o; constructor) <;> intro _
       | with_reducible first | refine LenR_i fun _ => ?_ | refine And.intro (by omega) ?_ | (apply Sp.o; constructor) | refine mkl_own ?_ | refine frz0_i ?_
       | with_reducible refine any_i [0] ?_
       | simp (maxSteps := 1000000) (disch := omega) only [lE, ptrCells, ptrAdd, isNil, readsV, readsP, isCall, wrote, srcOf, seval, IdxR_vers, Int.toNat_natCast, List.length_map, epR_map, hki, htk, ht2, ht3, hmin, if_true, List.length_drop, List.length_take, hx, ver_av, List.length_append, List.length_cons, List.length_nil])
      all_goals try (have e : insAt o (l.getD i default) (k + 1) = insAt o (l.getD i default) k := if_pos (by simp only [gtV, Bool.or_eq_true, Bool.and_eq_true, decide_eq_true_eq]; omega)
                     exact back_i k ⟨by omega, by rw [he, e]⟩ (by omega) (Ent.to [0] false (by simp) (by simp) rfl (by simp only [lP, seval, pa_vers] <;> (try simp) <;> (try omega)) (by simp only [lP, seval, pa_vers] <;> (try simp) <;> (try omega))))
      all_goals try (exfalso; omega)
      all_goals (have e := hins (by rw [he]; exact if_neg (by simp only [gtV, Bool.or_eq_true, Bool.and_eq_true, decide_eq_true_eq]; omega))
                 refine back_i (i + 1) (by omega) (by omega) (Ent.to [5] false (by simp) (by simp) rfl (by simp only [lP, seval, e, List.map_append, List.map_cons, List.map_nil, List.append_assoc, List.cons_append, List.nil_append, pa_vers, ver_av, pa_agg, ho] <;> (try simp) <;> (try omega)) (by simp only [lP, seval, e, List.map_append, List.map_cons, List.map_nil, List.append_assoc, List.cons_append, List.nil_append, pa_vers, ver_av, pa_agg, ho] <;> (try simp) <;> (try omega))))
  · rename_i h1
    have hil : i = l.length := by omega
    subst hil
    rw [List.take_length] at hoo
    subst hoo
    exact keep_i [0] false (by simp) (by simp) rfl ⟨by simp only [lP, seval], by simp only [lP, seval, pa_vers]⟩
end Go.Proofs.Try

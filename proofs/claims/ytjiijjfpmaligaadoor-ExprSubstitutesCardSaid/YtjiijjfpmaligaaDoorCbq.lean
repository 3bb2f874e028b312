/-
  A part of the proof: see the text of the law.
-/
import Derived.Test.YtjiijjfpmaligaaDoorCbp
import Derived.Test.YtjiijjfpmaligaaDoorCbo
import Derived.Test.YtjiijjfpmaligaaDoorCba
import Derived.Test.YtjiijjfpmaligaaDoorCar
set_option linter.unusedSimpArgs false
set_option linter.unusedVariables false
namespace Go.Proofs.Try
open Go.Proofs.Tryd
open Go.Al
set_option maxRecDepth 100000
/-- alum/alumlaw36.ExprSubstitutes -/
def mc9 : MC :=
 (.seq (.ops [(none, (.e (.box 6 (.t 1)))),
 (none, (.v (.mov 10 (.c (.bool false)))))])
 (.seq (.ops [(none, (.v (.mov 26 (.t 2)))),
 (none, (.v (.mov 27 (.t 4)))),
 (none, (.e (.call (some 28) 11 [(.t 26), (.t 27)]))),
 (none, (.v (.mov 11 (.t 28))))])
 (.seq (.seq (.ops [(none, (.v (.mov 29 (.t 11)))),
 (none, (.v (.not 30 (.t 29)))),
 (none, (.v (.mov 31 (.t 30)))),
 ((some (31, false)), (.v (.mov 32 (.t 0)))),
 ((some (31, false)), (.p (.len 33 (.t 32)))),
 ((some (31, false)), (.v (.bin 34 .gtr false (.t 33) (.c (.int .i64 20))))),
 (none, (.v (.pick 35 (.t 31) (.c (.bool true)) (.t 34)))),
 (none, (.v (.mov 36 (.t 35)))),
 ((some (36, false)), (.v (.mov 37 (.t 3)))),
 ((some (36, false)), (.p (.len 38 (.t 37)))),
 ((some (36, false)), (.v (.mov 39 (.t 0)))),
 ((some (36, false)), (.p (.len 40 (.t 39)))),
 ((some (36, false)), (.v (.bin 41 .neq false (.t 38) (.t 40)))),
 (none, (.v (.pick 42 (.t 36) (.c (.bool true)) (.t 41))))])
 (.cond 42
 (.seq (.ops [(none, (.e (.call (some 43) 13 []))),
 (none, (.v (.mov 10 (.t 43))))])
 .ret)
 .skip))
 (.seq (.ops [(none, (.v (.mov 44 (.t 0)))),
 (none, (.v (.load 45 true 6 (.t 6)))),
 (none, (.e (.call (some 46) 12 [(.t 44), (.t 45)]))),
 (none, (.v (.mov 12 (.t 46))))])
 (.seq (.seq (.ops [(none, (.v (.mov 47 (.t 12)))),
 (none, (.v (.not 48 (.t 47))))])
 (.cond 48
 (.seq (.ops [(none, (.e (.call (some 49) 13 []))),
 (none, (.v (.mov 10 (.t 49))))])
 .ret)
 .skip))
 (.seq (.ops [(none, (.v (.mov 13 (.c (.raw (.slice none 0 0))))))])
 (.seq (.seq (.ops [(none, (.v (.mov 14 (.c (.int .i64 0)))))])
 (.block 0 (.loop (.seq (.seq (.ops [(none, (.v (.mov 50 (.t 14)))),
 (none, (.v (.mov 51 (.t 3)))),
 (none, (.p (.len 52 (.t 51)))),
 (none, (.v (.bin 53 .lss false (.t 50) (.t 52))))])
 (.cond 53
 .skip
 (.exit 0)))
 (.seq (.block 1 (.seq (.ops [(none, (.v (.mov 57 (.t 2)))),
 (none, (.v (.mov 58 (.t 3)))),
 (none, (.v (.mov 59 (.t 14)))),
 (none, (.p (.idx 60 6 (.t 58) (.t 59)))),
 (none, (.v (.load 61 true 6 (.t 60)))),
 (none, (.e (.call (some 62) 38 [(.t 57), (.t 61)]))),
 (none, (.v (.mov 56 (.t 62)))),
 (none, (.v (.ext 63 0 (.t 56)))),
 (none, (.v (.ext 64 1 (.t 56)))),
 (none, (.v (.mov 15 (.t 63)))),
 (none, (.v (.mov 16 (.t 64))))])
 (.seq (.seq (.ops [(none, (.v (.mov 65 (.t 16)))),
 (none, (.v (.bin 66 .neq false (.t 65) (.c (.int .i64 0))))),
 (none, (.v (.mov 67 (.t 66)))),
 ((some (67, false)), (.v (.mov 68 (.t 15)))),
 ((some (67, false)), (.v (.mov 69 (.t 0)))),
 ((some (67, false)), (.v (.mov 70 (.t 14)))),
 ((some (67, false)), (.p (.idx 71 1 (.t 69) (.t 70)))),
 ((some (67, false)), (.v (.load 72 false 1 (.t 71)))),
 ((some (67, false)), (.v (.bin 73 .neq false (.t 68) (.t 72)))),
 ((some (67, false)), (.v (.mov 74 (.t 73)))),
 ((some (74, true)), (.v (.mov 75 (.t 15)))),
 ((some (74, true)), (.v (.bin 76 .neq false (.t 75) (.c (.int .i64 0))))),
 ((some (67, false)), (.v (.pick 77 (.t 74) (.t 76) (.c (.bool false))))),
 (none, (.v (.pick 78 (.t 67) (.c (.bool true)) (.t 77))))])
 (.cond 78
 (.seq (.ops [(none, (.e (.call (some 79) 13 []))),
 (none, (.v (.mov 10 (.t 79))))])
 .ret)
 .skip))
 (.seq (.ops [(none, (.v (.mov 81 (.t 3)))),
 (none, (.v (.mov 82 (.t 14)))),
 (none, (.p (.idx 83 6 (.t 81) (.t 82)))),
 (none, (.v (.load 84 true 6 (.t 83)))),
 (none, (.v (.mov 85 (.t 4)))),
 (none, (.e (.call (some 86) 14 [(.t 84), (.t 85)]))),
 (none, (.v (.mov 80 (.t 86)))),
 (none, (.v (.ext 87 0 (.t 80)))),
 (none, (.v (.ext 88 1 (.t 80)))),
 (none, (.e (.alloc 17 [(.int .i64 0), (.int .i64 0), (.str ⟨#[]⟩)]))),
 (none, (.e (.store 3 true (.t 17) (.t 87)))),
 (none, (.v (.mov 18 (.t 88))))])
 (.seq (.seq (.ops [(none, (.v (.mov 89 (.t 18)))),
 (none, (.v (.bin 90 .neq false (.t 89) (.c (.int .i64 0)))))])
 (.cond 90
 (.seq (.ops [(none, (.e (.call (some 91) 13 []))),
 (none, (.v (.mov 10 (.t 91))))])
 .ret)
 .skip))
 (.ops [(none, (.v (.mov 92 (.t 13)))),
 (none, (.v (.load 93 true 3 (.t 17)))),
 (none, (.e (.mkl 94 24 3 1 (.agg [(.int .i64 0), (.int .i64 0), (.str ⟨#[]⟩)]) [(0, (.t 93))]))),
 (none, (.e (.app 95 24 3 32 (.t 92) (.t 94)))),
 (none, (.v (.mov 13 (.t 95))))]))))))
 (.ops [(none, (.v (.mov 54 (.t 14)))),
 (none, (.v (.bin 55 .add false (.t 54) (.c (.int .i64 1))))),
 (none, (.v (.mov 14 (.t 55))))]))))))
 (.seq (.ops [(none, (.v (.load 96 true 6 (.t 6)))),
 (none, (.v (.mov 97 (.t 3)))),
 (none, (.e (.call (some 98) 39 [(.t 96), (.t 97)]))),
 (none, (.e (.alloc 19 [(.int .i64 0), (.int .i64 0), (.int .i64 0), (.int .i64 0), (.str ⟨#[]⟩), (.raw (.slice none 0 0))]))),
 (none, (.e (.store 6 true (.t 19) (.t 98))))])
 (.seq (.seq (.any false (.pure0 none (.v (.load 99 true 6 (.t 19)))
 (.pure0 none (.v (.load 100 true 6 (.t 6)))
 (.pure0 none (.v (.mov 101 (.t 3)))
 (.alt none (.e (.call (some 102) 40 [(.t 100), (.t 101)]))
 (.base (.alt none (.e (.call (some 103) 30 [(.t 99), (.t 102)]))
 (.base (.pure0 none (.v (.not 104 (.t 103)))
 .done))
 .stop))
 .stop)))))
 (.cond 104
 (.seq (.ops [(none, (.v (.mov 10 (.c (.bool false)))))])
 .ret)
 .skip))
 (.seq (.ops [(none, (.v (.mov 106 (.t 2)))),
 (none, (.v (.load 107 true 6 (.t 19)))),
 (none, (.e (.call (some 108) 16 [(.t 106), (.t 107)]))),
 (none, (.v (.mov 105 (.t 108)))),
 (none, (.v (.ext 109 0 (.t 105)))),
 (none, (.v (.ext 110 1 (.t 105)))),
 (none, (.v (.mov 20 (.t 109)))),
 (none, (.v (.mov 21 (.t 110))))])
 (.seq (.seq (.ops [(none, (.v (.mov 111 (.t 21)))),
 (none, (.v (.bin 112 .eql false (.t 111) (.c (.int .i64 2)))))])
 (.cond 112
 (.seq (.ops [(none, (.e (.call (some 113) 13 []))),
 (none, (.v (.mov 10 (.t 113))))])
 .ret)
 .skip))
 (.seq (.ops [(none, (.v (.load 115 true 6 (.t 19)))),
 (none, (.v (.mov 116 (.t 4)))),
 (none, (.e (.call (some 117) 14 [(.t 115), (.t 116)]))),
 (none, (.v (.mov 114 (.t 117)))),
 (none, (.v (.ext 118 0 (.t 114)))),
 (none, (.v (.ext 119 1 (.t 114)))),
 (none, (.e (.alloc 22 [(.int .i64 0), (.int .i64 0), (.str ⟨#[]⟩)]))),
 (none, (.e (.store 3 true (.t 22) (.t 118)))),
 (none, (.v (.mov 23 (.t 119))))])
 (.seq (.ops [(none, (.v (.load 121 true 6 (.t 6)))),
 (none, (.v (.mov 122 (.t 13)))),
 (none, (.e (.call (some 123) 14 [(.t 121), (.t 122)]))),
 (none, (.v (.mov 120 (.t 123)))),
 (none, (.v (.ext 124 0 (.t 120)))),
 (none, (.v (.ext 125 1 (.t 120)))),
 (none, (.e (.alloc 24 [(.int .i64 0), (.int .i64 0), (.str ⟨#[]⟩)]))),
 (none, (.e (.store 3 true (.t 24) (.t 124)))),
 (none, (.v (.mov 25 (.t 125))))])
 (.seq (.ops [(none, (.e (.call (some 126) 13 []))),
 (none, (.v (.mov 127 (.t 126)))),
 ((some (127, true)), (.v (.mov 128 (.t 21)))),
 ((some (127, true)), (.v (.bin 129 .eql false (.t 128) (.c (.int .i64 0))))),
 (none, (.v (.pick 130 (.t 127) (.t 129) (.c (.bool false))))),
 (none, (.v (.mov 131 (.t 130)))),
 ((some (131, true)), (.v (.load 132 true 3 (.t 22)))),
 ((some (131, true)), (.v (.load 133 true 3 (.t 24)))),
 ((some (131, true)), (.v (.eq 134 false (.agg [(0, false, 1, .int), (1, false, 1, .int), (2, false, 1, .str)]) (.t 132) (.t 133)))),
 (none, (.v (.pick 135 (.t 131) (.t 134) (.c (.bool false))))),
 (none, (.v (.mov 136 (.t 135)))),
 ((some (136, true)), (.v (.mov 137 (.t 23)))),
 ((some (136, true)), (.v (.mov 138 (.t 25)))),
 ((some (136, true)), (.v (.bin 139 .eql false (.t 137) (.t 138)))),
 (none, (.v (.pick 140 (.t 136) (.t 139) (.c (.bool false))))),
 (none, (.v (.mov 10 (.t 140))))])
 .ret))))))))))))))
theorem ok9 : FnOk E 9 141 [.tmp 10] mc9 := .of func9 (by kernel_rfl) (by kernel_rfl) (by kernel_rfl) (by kernel_rfl) (by kernel_rfl)
end Go.Proofs.Try
namespace Go.Proofs.Try
open Go.Al
set_option linter.unusedVariables false
set_option linter.unusedSimpArgs false
set_option maxRecDepth 20000
set_option maxHeartbeats 16000000

def evA (r : List VL) (x : EX) : AV := (x.tr.eval r).1.av
theorem vw_evA {H : List AObj} {l : List Nat} {n : Nat} {r : List VL} {xs : List EX} : (xs.map (evA r)).map (vw H l (n + 1)) = xs.map (evA r) := map_same (fun x => vw_vl _) xs
theorem pa_evA {H : List AObj} {l : List Nat} {bor : Bool} {n : Nat} {r : List VL} {xs : List EX} : (xs.map (evA r)).map (pa H l bor (n + 1)) = xs.map (evA r) := map_same (fun x => pa_vl _) xs
/-- What is asked of an argument. -/
def askA (ks ks2 : List Int) (r : List VL) (x : EX) (j : Nat) : Prop := (chk ks2 x).2 = 0 ∧ ((chk ks2 x).1 = ks.getD j 0 ∨ (chk ks2 x).1 = 0) ∧ (x.tr.eval r).2 = 0
theorem good_args {ks ks2 : List Int} {r : List VL} {args : List EX} (ho : OfR ks2 r) (hall : ∀ j, j < args.length → askA ks ks2 r (args.getD j default) j) : ∀ i, i < (args.map EX.tr).length → goodA ks ks2 r (args.map EX.tr) i := fun i hi => by
  rw [List.length_map] at hi
  obtain ⟨h1, h2, h3⟩ := hall i hi
  obtain ⟨hf, hk, hc⟩ := chk_ok h1
  obtain ⟨_, t2, _⟩ := ex_tr _ hf
  rw [hc] at h2
  have he : (args.map EX.tr).getD i default = (args.getD i default).tr := by
    simp only [List.getD_eq_getElem?_getD, List.getElem?_map, List.getElem?_eq_getElem hi, Option.map_some, Option.getD_some]
  unfold goodA
  rw [he]
  exact ⟨t2, hk, h2, h3⟩
theorem args_tr {ks ks2 : List Int} {r : List VL} {args : List EX} (hall : ∀ j, j < args.length → askA ks ks2 r (args.getD j default) j) : args.map EX.av = (args.map EX.tr).map avT := by
  rw [List.map_map]
  refine List.map_congr_left fun x hx => ?_
  obtain ⟨j, hj⟩ := List.getElem?_of_mem hx
  have hjl := (List.getElem?_eq_some_iff.1 hj).1
  obtain ⟨g1, _⟩ := hall j hjl
  rw [List.getD_eq_getElem?_getD, hj] at g1
  obtain ⟨gf, _, _⟩ := chk_ok g1
  obtain ⟨g2, _⟩ := ex_tr _ gf
  have g2 : x.tr.ex = x := g2
  show x.av = x.tr.ex.av
  rw [g2]
theorem c9 (h13 : Sane) (ks : List Int) (e : EX) (hI : e.okI) (ks2 : List Int) (args : List EX) (r : List VL) : ACalls E.P 9 [ksV ks, e.av, ksV ks2, .view 6 (args.map EX.av), rowV r] [] (fun r H => r = .bool true ∧ H = []) := by
  have hmax := maxLen_eq
  have h11 := c11 ks2 r
  have h12 := c12 ks e
  simp only [av_fs] at h12
  refine ok9.acalls hE hm (by simp) fun N hN => ?_
  unfold mc9
  simp only [lA, ptrCells, ptrAdd, isNil, readsV, readsP, isCall, wrote, srcOf, seval, av_fs]
  by_cases ho' : ¬ OfR ks2 r
  · repeat' (first
     | (with_reducible apply St.o; constructor) <;> intro _
     | with_reducible first | refine LenR_i fun _ => ?_ | refine And.intro (by omega) ?_ | (apply Sp.o; constructor) | refine frz0_i ?_
     | ((with_reducible apply Sc.o true; constructor); simp only [lP, seval, ho']; (first | refine ⟨_, h11, ?_⟩ | refine ⟨_, h13, ?_⟩); rintro _ _ ⟨rfl, rfl⟩; simp only [lA, lP, ptrCells, ptrAdd, isNil, readsV, readsP, isCall, wrote, srcOf, seval, ho'])
     | ((with_reducible refine keep0_i ?_); simp only [lP, seval])
     | simp (maxSteps := 1000000) (disch := omega) only [lE, ptrCells, ptrAdd, isNil, readsV, readsP, isCall, wrote, srcOf, seval, ho'])
  have ho := Classical.not_not.1 ho'
  clear ho'
  by_cases h20 : (20 : Int) < ks.length
  · repeat' (first
     | (with_reducible apply St.o; constructor) <;> intro _
     | with_reducible first | refine LenR_i fun _ => ?_ | refine And.intro (by omega) ?_ | (apply Sp.o; constructor) | refine frz0_i ?_
     | ((with_reducible apply Sc.o true; constructor); simp only [lP, seval, ho, h20, decide_true, List.length_map]; (first | refine ⟨_, h11, ?_⟩ | refine ⟨_, h13, ?_⟩); rintro _ _ ⟨rfl, rfl⟩; simp only [lA, lP, ptrCells, ptrAdd, isNil, readsV, readsP, isCall, wrote, srcOf, seval, ho, h20, decide_true, List.length_map])
     | ((with_reducible refine keep0_i ?_); simp only [lP, seval])
     | simp (maxSteps := 1000000) (disch := omega) only [lE, ptrCells, ptrAdd, isNil, readsV, readsP, isCall, wrote, srcOf, seval, ho, h20, decide_true, List.length_map])
  by_cases hlen' : ¬ args.length = ks.length
  · have hne : ¬ ((args.length : Int) = ks.length) := by omega
    repeat' (first
     | (with_reducible apply St.o; constructor) <;> intro _
     | with_reducible first | refine LenR_i fun _ => ?_ | refine And.intro (by omega) ?_ | (apply Sp.o; constructor) | refine frz0_i ?_
     | ((with_reducible apply Sc.o true; constructor); simp only [lP, seval, ho, h20, hne, decide_true, decide_false, List.length_map]; (first | refine ⟨_, h11, ?_⟩ | refine ⟨_, h13, ?_⟩); rintro _ _ ⟨rfl, rfl⟩; simp only [lA, lP, ptrCells, ptrAdd, isNil, readsV, readsP, isCall, wrote, srcOf, seval, ho, h20, hne, decide_true, decide_false, List.length_map])
     | ((with_reducible refine keep0_i ?_); simp only [lP, seval])
     | simp (maxSteps := 1000000) (disch := omega) only [lE, ptrCells, ptrAdd, isNil, readsV, readsP, isCall, wrote, srcOf, seval, ho, h20, hne, decide_true, decide_false, List.length_map])
  have hlen := Classical.not_not.1 hlen'
  clear hlen'
  have hle : ((args.length : Int) = ks.length) := by omega
  by_cases hc' : ¬ (chk ks e).2 = 0
  · repeat' (first
     | (with_reducible apply St.o; constructor) <;> intro _
     | with_reducible first | refine LenR_i fun _ => ?_ | refine And.intro (by omega) ?_ | (apply Sp.o; constructor) | refine frz0_i ?_
     | ((with_reducible apply Sc.o true; constructor); simp only [lP, seval, ho, h20, hle, hc', decide_true, decide_false, List.length_map]; (first | refine ⟨_, h11, ?_⟩ | refine ⟨_, h12, ?_⟩ | refine ⟨_, h13, ?_⟩); rintro _ _ ⟨rfl, rfl⟩; simp only [lA, lP, ptrCells, ptrAdd, isNil, readsV, readsP, isCall, wrote, srcOf, seval, ho, h20, hle, hc', decide_true, decide_false, List.length_map])
     | ((with_reducible refine keep0_i ?_); simp only [lP, seval])
     | simp (maxSteps := 1000000) (disch := omega) only [lE, ptrCells, ptrAdd, isNil, readsV, readsP, isCall, wrote, srcOf, seval, ho, h20, hle, hc', decide_true, decide_false, List.length_map])
  have hc := Classical.not_not.1 hc'
  clear hc'
  repeat' (first
   | (with_reducible apply St.o; constructor) <;> intro _
   | with_reducible first | refine LenR_i fun _ => ?_ | refine And.intro (by omega) ?_ | (apply Sp.o; constructor) | refine frz0_i ?_
   | ((with_reducible apply Sc.o true; constructor); simp only [lP, seval, ho, h20, hle, hc, decide_true, decide_false, List.length_map]; (first | refine ⟨_, h11, ?_⟩ | refine ⟨_, h12, ?_⟩); rintro _ _ ⟨rfl, rfl⟩; simp only [lA, lP, ptrCells, ptrAdd, isNil, readsV, readsP, isCall, wrote, srcOf, seval, ho, h20, hle, hc, decide_true, decide_false, List.length_map])
   | ((with_reducible refine keep0_i ?_); simp only [lP, seval])
   | simp (maxSteps := 1000000) (disch := omega) only [lE, ptrCells, ptrAdd, isNil, readsV, readsP, isCall, wrote, srcOf, seval, ho, h20, hle, hc, decide_true, decide_false, List.length_map])
  refine loop_i (fun i : Nat => i ≤ args.length ∧ ∀ j, j < i → askA ks ks2 r (args.getD j default) j) (fun i => ⟨[(0, ksV ks), (2, ksV ks2), (3, .view 6 (args.map EX.av)), (4, rowV r), (6, .op 0 0), (13, if i = 0 then .raw (.slice none 0 0) else .slc 1 3 i), (14, .int .i64 i)],
    if i = 0 then [.box e.fs] else [.box e.fs, .arr 24 3 ((args.take i).map (evA r))]⟩) (fun i => args.length - i) 0 ⟨by omega, fun j hj => by omega⟩ (by simp only [if_true]; exact (Ent.to [0] false (by simp) (by simp) rfl (by simp only [lP, seval, pa_exs] <;> (try simp) <;> (try omega)) (by simp only [lP, seval, pa_exs] <;> (try simp) <;> (try omega)))) ?_
  rintro i ⟨hi, hall⟩
  by_cases hin : i < args.length
  · have hlt : ((i : Int) < (args.length : Int)) := by omega
    have h38 := c38 ks2 (args.getD i default)
    simp only [av_fs] at h38
    have hl : (args.take i).length = i := by simp; omega
    have ht : (args.take (i + 1)).map (evA r) = (args.take i).map (evA r) ++ [evA r (args.getD i default)] := by
      rw [List.take_succ_eq_append_getElem hin, List.map_append]
      simp [hin]
    have hev : ((args.getD i default).tr.eval r).1.av = evA r (args.getD i default) := rfl
    have nx : askA ks ks2 r (args.getD i default) i → ∀ j, j < i + 1 → askA ks ks2 r (args.getD j default) j := fun h => all_snoc hall h
    simp only [vl_av] at hev
    by_cases hck' : ¬ (chk ks2 (args.getD i default)).2 = 0
    · by_cases hi0 : i = 0
      · subst hi0
        have hlt0 : ((0 : Int) < (args.length : Int)) := by omega
        simp only [if_true]
        repeat' (first
         | (with_reducible apply St.o; constructor) <;> intro _
         | with_reducible first | refine LenR_i fun _ => ?_ | refine And.intro (by omega) ?_ | (apply Sp.o; constructor) | refine frz0_i ?_
         | ((with_reducible apply Sc.o true; constructor); simp only [lP, seval, IdxR_exs, IdxR_ints, Int.toNat_natCast, List.length_map, hlt0, hck', decide_true, decide_false]; (first | refine ⟨_, h38, ?_⟩ | refine ⟨_, h13, ?_⟩); rintro _ _ ⟨rfl, rfl⟩; simp only [lA, lP, ptrCells, ptrAdd, isNil, readsV, readsP, isCall, wrote, srcOf, seval, IdxR_exs, IdxR_ints, Int.toNat_natCast, List.length_map, hlt0, hck', decide_true, decide_false])
         | ((with_reducible refine keep0_i ?_); simp only [lP, seval])
         | simp (maxSteps := 1000000) (disch := omega) only [lE, ptrCells, ptrAdd, isNil, readsV, readsP, isCall, wrote, srcOf, seval, IdxR_exs, IdxR_ints, Int.toNat_natCast, List.length_map, hlt0, hck', decide_true, decide_false])
      · simp only [if_neg hi0]
        repeat' (first
         | (with_reducible apply St.o; constructor) <;> intro _
         | with_reducible first | refine LenR_i fun _ => ?_ | refine And.intro (by omega) ?_ | (apply Sp.o; constructor) | refine frz0_i ?_
         | ((with_reducible apply Sc.o true; constructor); simp only [lP, seval, IdxR_exs, IdxR_ints, Int.toNat_natCast, List.length_map, hlt, hck', decide_true, decide_false]; (first | refine ⟨_, h38, ?_⟩ | refine ⟨_, h13, ?_⟩); rintro _ _ ⟨rfl, rfl⟩; simp only [lA, lP, ptrCells, ptrAdd, isNil, readsV, readsP, isCall, wrote, srcOf, seval, IdxR_exs, IdxR_ints, Int.toNat_natCast, List.length_map, hlt, hck', decide_true, decide_false])
         | ((with_reducible refine keep0_i ?_); simp only [lP, seval])
         | simp (maxSteps := 1000000) (disch := omega) only [lE, ptrCells, ptrAdd, isNil, readsV, readsP, isCall, wrote, srcOf, seval, IdxR_exs, IdxR_ints, Int.toNat_natCast, List.length_map, hlt, hck', decide_true, decide_false])
    have hck := Classical.not_not.1 hck'
    clear hck'
    have h14 : ACalls E.P 14 [.agg (args.getD i default).fs, rowV r] [] (fun q H => q = .tup [.agg ((args.getD i default).tr.eval r).1.cs, .int .i64 ((args.getD i default).tr.eval r).2] ∧ H = []) := by
      obtain ⟨hf, hk, _⟩ := chk_ok hck
      obtain ⟨t1, t2, _⟩ := ex_tr _ hf
      obtain ⟨f1, f2⟩ := kind_ok ks2 _ t2 hk
      rw [← ho.2.1] at f1
      have := c14 (ofR_right ho) _ t2 f1 f2
      rwa [t1, av_fs, vl_av] at this
    have mk : ((chk ks2 (args.getD i default)).1 = ks.getD i 0 ∨ (chk ks2 (args.getD i default)).1 = 0) → ((args.getD i default).tr.eval r).2 = 0 → askA ks ks2 r (args.getD i default) i := fun h1 h2 => ⟨hck, h1, h2⟩
    generalize hx : args.getD i default = x at *
    by_cases hi0 : i = 0
    · subst hi0
      have hlt0 : ((0 : Int) < (args.length : Int)) := by omega
      simp only [if_true]
      repeat' (first
       | (with_reducible apply St.o; constructor) <;> intro _
       | with_reducible first | refine LenR_i fun _ => ?_ | refine And.intro (by omega) ?_ | (apply Sp.o; constructor) | refine frz0_i ?_
       | ((with_reducible apply Sc.o true; constructor); simp only [lP, seval, hx, IdxR_exs, IdxR_ints, Int.toNat_natCast, List.length_map, hlt0, hck, decide_true, decide_false, ti24]; (first | refine ⟨_, h38, ?_⟩ | refine ⟨_, h14, ?_⟩ | refine ⟨_, h13, ?_⟩); rintro _ _ ⟨rfl, rfl⟩; simp only [lA, lP, ptrCells, ptrAdd, isNil, readsV, readsP, isCall, wrote, srcOf, seval, hx, IdxR_exs, IdxR_ints, Int.toNat_natCast, List.length_map, hlt0, hck, decide_true, decide_false, ti24])
       | ((with_reducible refine keep0_i ?_); simp only [lP, seval])
       | simp (maxSteps := 1000000) (disch := omega) only [lE, ptrCells, ptrAdd, isNil, readsV, readsP, isCall, wrote, srcOf, seval, hx, IdxR_exs, IdxR_ints, Int.toNat_natCast, List.length_map, hlt0, hck, decide_true, decide_false, ti24])
      all_goals
        refine back_i 1 ⟨by omega, nx (mk (by omega) (by assumption))⟩ (by omega) ?_
        rw [if_neg (by omega)]
        simp only [Nat.zero_add] at ht
        rw [ht, ← hev]
        exact (Ent.to [0,3] false (by simp) (by simp) rfl (by simp only [lP, seval, pa_exs, pa_evA, List.map_append, hl] <;> (try simp) <;> (try omega)) (by simp only [lP, seval, pa_exs, pa_evA, List.map_append, hl] <;> (try simp) <;> (try omega)))
    · simp only [if_neg hi0]
      repeat' (first
       | (with_reducible apply St.o; constructor) <;> intro _
       | with_reducible first | refine LenR_i fun _ => ?_ | refine And.intro (by omega) ?_ | (apply Sp.o; constructor) | refine frz0_i ?_
       | ((with_reducible apply Sc.o true; constructor); simp only [lP, seval, hx, IdxR_exs, IdxR_ints, Int.toNat_natCast, List.length_map, hlt, hck, decide_true, decide_false, ti24, pa_evA, vw_evA]; (first | refine ⟨_, h38, ?_⟩ | refine ⟨_, h14, ?_⟩ | refine ⟨_, h13, ?_⟩); rintro _ _ ⟨rfl, rfl⟩; simp only [lA, lP, ptrCells, ptrAdd, isNil, readsV, readsP, isCall, wrote, srcOf, seval, hx, IdxR_exs, IdxR_ints, Int.toNat_natCast, List.length_map, hlt, hck, decide_true, decide_false, ti24, pa_evA, vw_evA])
       | ((with_reducible refine keep0_i ?_); simp only [lP, seval])
       | simp (maxSteps := 1000000) (disch := omega) only [lE, ptrCells, ptrAdd, isNil, readsV, readsP, isCall, wrote, srcOf, seval, hx, IdxR_exs, IdxR_ints, Int.toNat_natCast, List.length_map, hlt, hck, decide_true, decide_false, ti24, pa_evA, vw_evA])
      all_goals
        refine back_i (i + 1) ⟨by omega, nx (mk (by omega) (by assumption))⟩ (by omega) ?_
        rw [if_neg (by omega), ht, ← hev]
        exact (Ent.to [0,4] false (by simp) (by simp) rfl (by simp only [lP, seval, pa_exs, pa_evA, List.map_append, hl] <;> (try simp) <;> (try omega)) (by simp only [lP, seval, pa_exs, pa_evA, List.map_append, hl] <;> (try simp) <;> (try omega)))
  · obtain rfl : i = args.length := by omega
    obtain ⟨hf, hk, hck⟩ := chk_ok hc
    obtain ⟨t1, t2, t3⟩ := ex_tr e hf
    obtain ⟨hfit, hvals⟩ := kind_ok ks e.tr t2 hk
    have hgood := good_args ho hall
    have hnd : args.map EX.av = (args.map EX.tr).map avT := args_tr hall
    have hll : (args.map EX.tr).length = args.length := List.length_map _
    have hfit' : e.tr.fits (args.map EX.tr).length := by rw [hll, hlen]; exact hfit
    have sw := subst_wf (ks := ks) (fun i hi => (hgood i hi).1) e.tr t2 hfit'
    have sk := subst_kind (by rw [hll, hlen]) hgood e.tr t2 hk
    obtain ⟨sf, sv⟩ := kind_ok ks2 _ sw sk.1
    rw [← ho.2.1] at sf
    have se := subst_eval (r := r) (vs := args.map fun x => (x.tr.eval r).1) (l := args.map EX.tr) (fun i hi => by
      have h1 : i < args.length := by rw [← hll]; exact hi
      have h2 := (hgood i hi).2.2.2
      simp only [List.getD_eq_getElem?_getD, List.getElem?_map, List.getElem?_eq_getElem h1, Option.map_some, Option.getD_some] at h2 ⊢
      rw [← h2]) e.tr t2 hfit'
    have h39 := c39 (args.map EX.tr) e.tr t2 hfit'
    have h40 := c40 (args.map EX.tr) e.tr t2 hfit'
    have h14s := c14 (ofR_right ho) _ sw sf sv
    have vr : ∀ v ∈ (args.map fun x => (x.tr.eval r).1), v.Right := fun v hv => by
      obtain ⟨x, hx, rfl⟩ := List.mem_map.1 hv
      obtain ⟨j, hj⟩ := List.getElem?_of_mem hx
      have hjl := (List.getElem?_eq_some_iff.1 hj).1
      obtain ⟨g1, _⟩ := hall j hjl
      rw [List.getD_eq_getElem?_getD, hj] at g1
      obtain ⟨gf, gk, _⟩ := chk_ok g1
      obtain ⟨_, g2, _⟩ := ex_tr _ gf
      obtain ⟨g3, g4⟩ := kind_ok ks2 _ g2 gk
      rw [← ho.2.1] at g3
      exact T.eval_right (ofR_right ho) _ g2 g3 g4
    have h14v := c14 vr e.tr t2 (by rw [List.length_map, hlen]; exact hfit) hvals
    have h16 := c16 ks2 (e.tr.subst (args.map EX.tr)).ex (T.okI_ex (T.vals_mono (fun v hv => right_inI hv) sv))
    have h30 := c30 (e.tr.subst (args.map EX.tr)).ex (e.tr.subst (args.map EX.tr)).ex
    rw [eqE_iff.2 rfl] at h30
    have hcs : (chk ks2 (e.tr.subst (args.map EX.tr)).ex).2 = 2 ∨ (chk ks2 (e.tr.subst (args.map EX.tr)).ex).2 = 0 := by
      unfold chk
      split
      · exact .inl rfl
      · rw [T.formed _ sw, if_pos rfl, tr_ex]; exact .inr sk.1
    rw [se] at h14s
    have hrow : rowV (args.map fun x => (x.tr.eval r).1) = .view 3 (args.map (evA r)) := by
      simp only [rowV, List.map_map]; rfl
    rw [hrow, t1] at h14v
    rw [← hnd, t1] at h39 h40
    simp only [vl_av] at h14s h14v
    simp only [av_fs] at h39 h40 h14s h14v h16 h30
    generalize (e.tr.subst (args.map EX.tr)).ex = s at *
    generalize e.tr.eval (args.map fun x => (x.tr.eval r).1) = w at *
    generalize chk ks2 s = q at *
    clear se sv sf sk sw hfit' hgood hnd hrow vr hall h11 h12 hll hfit hvals t1 t2 t3 hck hk hf hc
    rw [List.take_length]
    rcases hcs with hq | hq
    · by_cases h0 : args.length = 0
      · simp only [if_pos h0]
        repeat' (first
         | (with_reducible apply St.o; constructor) <;> intro _
         | with_reducible first | refine LenR_i fun _ => ?_ | refine And.intro (by omega) ?_ | (apply Sp.o; constructor) | refine frz0_i ?_
         | ((with_reducible apply Sc.o true; constructor); simp only [lP, seval, hq, Int.lt_irrefl, decide_false, List.length_map, ti27, pa_exs, vw_exs]; (first | refine ⟨_, h30, ?_⟩ | refine ⟨_, h16, ?_⟩ | refine ⟨_, h13, ?_⟩); rintro _ _ ⟨rfl, rfl⟩; simp only [lA, lP, ptrCells, ptrAdd, isNil, readsV, readsP, isCall, wrote, srcOf, seval, hq, Int.lt_irrefl, decide_false, List.length_map, ti27, pa_exs, vw_exs])
         | ((with_reducible apply Sc.o false; constructor); simp only [lP, seval, hq, Int.lt_irrefl, decide_false, List.length_map, ti27, pa_exs, vw_exs]; (first | refine ⟨_, h39, ?_⟩ | refine ⟨_, h40, ?_⟩); rintro _ _ ⟨rfl, rfl⟩; simp only [lA, lP, ptrCells, ptrAdd, isNil, readsV, readsP, isCall, wrote, srcOf, seval, hq, Int.lt_irrefl, decide_false, List.length_map, ti27, pa_exs, vw_exs])
         | ((with_reducible refine keep0_i ?_); simp only [lP, seval])
         | simp (maxSteps := 1000000) (disch := omega) only [lE, ptrCells, ptrAdd, isNil, readsV, readsP, isCall, wrote, srcOf, seval, hq, Int.lt_irrefl, decide_false, List.length_map, ti27, pa_exs, vw_exs])
        all_goals trace_state
      · simp only [if_neg h0]
        repeat' (first
         | (with_reducible apply St.o; constructor) <;> intro _
         | with_reducible first | refine LenR_i fun _ => ?_ | refine And.intro (by omega) ?_ | (apply Sp.o; constructor) | refine frz0_i ?_
         | ((with_reducible apply Sc.o true; constructor); simp only [lP, seval, hq, Int.lt_irrefl, decide_false, List.length_map, ti27, pa_exs, vw_exs, pa_evA, vw_evA]; (first | refine ⟨_, h30, ?_⟩ | refine ⟨_, h16, ?_⟩ | refine ⟨_, h13, ?_⟩); rintro _ _ ⟨rfl, rfl⟩; simp only [lA, lP, ptrCells, ptrAdd, isNil, readsV, readsP, isCall, wrote, srcOf, seval, hq, Int.lt_irrefl, decide_false, List.length_map, ti27, pa_exs, vw_exs, pa_evA, vw_evA])
         | ((with_reducible apply Sc.o false; constructor); simp only [lP, seval, hq, Int.lt_irrefl, decide_false, List.length_map, ti27, pa_exs, vw_exs, pa_evA, vw_evA]; (first | refine ⟨_, h39, ?_⟩ | refine ⟨_, h40, ?_⟩); rintro _ _ ⟨rfl, rfl⟩; simp only [lA, lP, ptrCells, ptrAdd, isNil, readsV, readsP, isCall, wrote, srcOf, seval, hq, Int.lt_irrefl, decide_false, List.length_map, ti27, pa_exs, vw_exs, pa_evA, vw_evA])
         | ((with_reducible refine keep0_i ?_); simp only [lP, seval])
         | simp (maxSteps := 1000000) (disch := omega) only [lE, ptrCells, ptrAdd, isNil, readsV, readsP, isCall, wrote, srcOf, seval, hq, Int.lt_irrefl, decide_false, List.length_map, ti27, pa_exs, vw_exs, pa_evA, vw_evA])
        all_goals trace_state
    · by_cases h0 : args.length = 0
      · have ha0 : args = [] := List.eq_nil_of_length_eq_zero h0
        have h14n : ACalls E.P 14 [.agg e.fs, .raw (.slice none 0 0)] [] (fun q H => q = .tup [.agg w.1.cs, .int .i64 w.2] ∧ H = []) := by
          rw [ha0] at h14v
          exact nil_arg2 (xs := []) h14v
        simp only [if_pos h0]
        repeat' (first
         | (with_reducible apply St.o; constructor) <;> intro _
         | with_reducible first | refine LenR_i fun _ => ?_ | refine And.intro (by omega) ?_ | (apply Sp.o; constructor) | refine frz0_i ?_
         | ((with_reducible apply Sc.o true; constructor); simp only [lP, seval, hq, Int.lt_irrefl, decide_false, List.length_map, ti27, pa_exs, vw_exs, strA, flatEq]; (first | refine ⟨_, h30, ?_⟩ | refine ⟨_, h16, ?_⟩ | refine ⟨_, h13, ?_⟩ | refine ⟨_, h14s, ?_⟩ | refine ⟨_, h14n, ?_⟩); rintro _ _ ⟨rfl, rfl⟩; simp only [lA, lP, ptrCells, ptrAdd, isNil, readsV, readsP, isCall, wrote, srcOf, seval, hq, Int.lt_irrefl, decide_false, List.length_map, ti27, pa_exs, vw_exs, strA, flatEq])
         | ((with_reducible apply Sc.o false; constructor); simp only [lP, seval, hq, Int.lt_irrefl, decide_false, List.length_map, ti27, pa_exs, vw_exs, strA, flatEq]; (first | refine ⟨_, h39, ?_⟩ | refine ⟨_, h40, ?_⟩); rintro _ _ ⟨rfl, rfl⟩; simp only [lA, lP, ptrCells, ptrAdd, isNil, readsV, readsP, isCall, wrote, srcOf, seval, hq, Int.lt_irrefl, decide_false, List.length_map, ti27, pa_exs, vw_exs, strA, flatEq])
         | ((with_reducible refine keep0_i ?_); simp only [lP, seval])
         | simp (maxSteps := 1000000) (disch := omega) only [lE, ptrCells, ptrAdd, isNil, readsV, readsP, isCall, wrote, srcOf, seval, hq, Int.lt_irrefl, decide_false, List.length_map, ti27, pa_exs, vw_exs, strA, flatEq])
        all_goals trace_state
      · simp only [if_neg h0]
        repeat' (first
         | (with_reducible apply St.o; constructor) <;> intro _
         | with_reducible first | refine LenR_i fun _ => ?_ | refine And.intro (by omega) ?_ | (apply Sp.o; constructor) | refine frz0_i ?_
         | ((with_reducible apply Sc.o true; constructor); simp only [lP, seval, hq, Int.lt_irrefl, decide_false, List.length_map, ti27, pa_exs, vw_exs, pa_evA, vw_evA, strA, flatEq]; (first | refine ⟨_, h30, ?_⟩ | refine ⟨_, h16, ?_⟩ | refine ⟨_, h13, ?_⟩ | refine ⟨_, h14s, ?_⟩ | refine ⟨_, h14v, ?_⟩); rintro _ _ ⟨rfl, rfl⟩; simp only [lA, lP, ptrCells, ptrAdd, isNil, readsV, readsP, isCall, wrote, srcOf, seval, hq, Int.lt_irrefl, decide_false, List.length_map, ti27, pa_exs, vw_exs, pa_evA, vw_evA, strA, flatEq])
         | ((with_reducible apply Sc.o false; constructor); simp only [lP, seval, hq, Int.lt_irrefl, decide_false, List.length_map, ti27, pa_exs, vw_exs, pa_evA, vw_evA, strA, flatEq]; (first | refine ⟨_, h39, ?_⟩ | refine ⟨_, h40, ?_⟩); rintro _ _ ⟨rfl, rfl⟩; simp only [lA, lP, ptrCells, ptrAdd, isNil, readsV, readsP, isCall, wrote, srcOf, seval, hq, Int.lt_irrefl, decide_false, List.length_map, ti27, pa_exs, vw_exs, pa_evA, vw_evA, strA, flatEq])
         | ((with_reducible refine keep0_i ?_); simp only [lP, seval])
         | simp (maxSteps := 1000000) (disch := omega) only [lE, ptrCells, ptrAdd, isNil, readsV, readsP, isCall, wrote, srcOf, seval, hq, Int.lt_irrefl, decide_false, List.length_map, ti27, pa_exs, vw_exs, pa_evA, vw_evA, strA, flatEq])
        all_goals trace_state
end Go.Proofs.Try

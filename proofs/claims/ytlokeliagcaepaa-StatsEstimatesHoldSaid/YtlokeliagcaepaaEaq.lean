/-
  A part of the proof: see the text of the law.
-/
import Derived.Test.YtlokeliagcaepaaEao
import Derived.Test.YtlokeliagcaepaaPab
import Derived.Test.YtlokeliagcaepaaAlphaK
set_option linter.unusedSimpArgs false
set_option linter.unusedVariables false
namespace Go.Proofs.Try
open Go.Al
set_option maxRecDepth 100000
/-- alum/stats.Of -/
def mc11 : MC :=
 (.seq (.ops [(none, (.e (.box 3 (.t 1)))),
 (none, (.e (.alloc 4 [(.int .i64 0), (.raw (.slice none 0 0))]))),
 (none, (.v (.mov 5 (.c (.int .i64 0)))))])
 (.seq (.seq (.ops [(none, (.v (.mov 11 (.t 0)))),
 (none, (.p (.len 12 (.t 11)))),
 (none, (.v (.bin 13 .gtr false (.t 12) (.c (.int .i64 16777216)))))])
 (.cond 13
 (.seq (.ops [(none, (.v (.build 14 [(.int .i64 0), (.raw (.slice none 0 0))] []))),
 (none, (.e (.store 2 true (.t 4) (.t 14)))),
 (none, (.v (.mov 5 (.c (.int .i64 2)))))])
 .ret)
 .skip))
 (.seq (.seq (.ops [(none, (.v (.load 15 false 1 (.t 3)))),
 (none, (.v (.bin 16 .lss false (.t 15) (.c (.int .i64 0))))),
 (none, (.v (.mov 17 (.t 16)))),
 ((some (17, false)), (.v (.mov 18 (.t 0)))),
 ((some (17, false)), (.v (.fn 19 (.func 38) [] [(.t 3)]))),
 ((some (17, false)), (.e (.call (some 20) 37 [(.t 18), (.t 19)]))),
 (none, (.v (.pick 21 (.t 17) (.c (.bool true)) (.t 20))))])
 (.cond 21
 (.seq (.ops [(none, (.v (.build 22 [(.int .i64 0), (.raw (.slice none 0 0))] []))),
 (none, (.e (.store 2 true (.t 4) (.t 22)))),
 (none, (.v (.mov 5 (.c (.int .i64 1)))))])
 .ret)
 .skip))
 (.seq (.ops [(none, (.v (.mov 23 (.t 0)))),
 (none, (.p (.len 24 (.t 23)))),
 (none, (.v (.load 25 false 1 (.t 3)))),
 (none, (.e (.mk 26 3 1 8 (.int .i64 0) (.t 25) (.t 25)))),
 (none, (.v (.build 27 [(.int .i64 0), (.raw (.slice none 0 0))] [(0, 1, (.t 24)), (1, 1, (.t 26))]))),
 (none, (.e (.alloc 6 [(.int .i64 0), (.raw (.slice none 0 0))]))),
 (none, (.e (.store 2 true (.t 6) (.t 27))))])
 (.seq (.seq (.ops [(none, (.v (.load 28 false 1 (.t 3)))),
 (none, (.v (.mov 29 (.c (.int .i64 0)))))])
 (.block 0 (.loop (.seq (.ops [(none, (.v (.bin 30 .lss false (.t 29) (.t 28))))])
 (.seq (.cond 30
 .skip
 (.exit 0))
 (.seq (.block 1 (.seq (.ops [(none, (.v (.mov 31 (.t 29)))),
 (none, (.v (.mov 7 (.t 31))))])
 (.seq (.ops [(none, (.e (.mkmap 32))),
 (none, (.v (.mov 8 (.t 32))))])
 (.seq (.seq (.ops [(none, (.v (.mov 33 (.t 0)))),
 (none, (.p (.len 34 (.t 33)))),
 (none, (.v (.mov 35 (.c (.int .i64 0)))))])
 (.block 2 (.loop (.seq (.ops [(none, (.v (.bin 36 .lss false (.t 35) (.t 34))))])
 (.seq (.cond 36
 .skip
 (.exit 2))
 (.seq (.block 3 (.seq (.ops [(none, (.p (.idx 37 1 (.t 33) (.t 35)))),
 (none, (.v (.load 38 false 1 (.t 37)))),
 (none, (.v (.mov 10 (.t 38))))])
 (.seq (.ops [(none, (.v (.mov 39 (.t 10)))),
 (none, (.v (.mov 40 (.t 7)))),
 (none, (.p (.idx 41 3 (.t 39) (.t 40)))),
 (none, (.v (.fld 42 0 (.t 41)))),
 (none, (.v (.load 43 false 1 (.t 42)))),
 (none, (.v (.bin 44 .neq false (.t 43) (.c (.int .i64 0)))))])
 (.cond 44
 (.ops [(none, (.v (.mov 45 (.t 8)))),
 (none, (.v (.mov 46 (.t 10)))),
 (none, (.v (.mov 47 (.t 7)))),
 (none, (.p (.idx 48 3 (.t 46) (.t 47)))),
 (none, (.v (.load 49 true 3 (.t 48)))),
 (none, (.e (.mput (.wide [.int .i64, .int .i64, .str]) (.t 45) (.t 49) (.c (.bool true)))))])
 .skip))))
 (.ops [(none, (.v (.bin 50 .add false (.t 35) (.c (.int .i64 1))))),
 (none, (.v (.mov 35 (.t 50))))])))))))
 (.ops [(none, (.v (.fld 51 1 (.t 6)))),
 (none, (.v (.load 52 false 1 (.t 51)))),
 (none, (.v (.mov 53 (.t 7)))),
 (none, (.v (.mov 54 (.t 8)))),
 (none, (.p (.mlen 55 (.t 54)))),
 (none, (.p (.idx 56 1 (.t 52) (.t 53)))),
 (none, (.e (.store 1 false (.t 56) (.t 55))))])))))
 (.ops [(none, (.v (.bin 57 .add false (.t 29) (.c (.int .i64 1))))),
 (none, (.v (.mov 29 (.t 57))))])))))))
 (.seq (.ops [(none, (.v (.load 58 true 2 (.t 6)))),
 (none, (.e (.store 2 true (.t 4) (.t 58)))),
 (none, (.v (.mov 5 (.c (.int .i64 0)))))])
 .ret))))))
theorem ok11 : FnOk E 11 59 [.cell 4 27, .tmp 5] mc11 := .of func11 (by kernel_rfl) (by kernel_rfl) (by kernel_rfl) (by kernel_rfl) (by kernel_rfl)
/-- alum/alumref39.Of -/
def mc12 : MC :=
 (.seq (.ops [(none, (.e (.alloc 4 [(.int .i64 0), (.raw (.slice none 0 0))]))),
 (none, (.v (.mov 5 (.c (.int .i64 0)))))])
 (.seq (.seq (.ops [(none, (.v (.mov 6 (.c (.int .i64 0)))))])
 (.block 0 (.loop (.seq (.seq (.ops [(none, (.v (.mov 9 (.t 6)))),
 (none, (.v (.mov 10 (.t 0)))),
 (none, (.p (.len 11 (.t 10)))),
 (none, (.v (.bin 12 .lss false (.t 9) (.t 11))))])
 (.cond 12
 .skip
 (.exit 0)))
 (.seq (.block 1 (.seq (.ops [(none, (.v (.mov 15 (.t 0)))),
 (none, (.v (.mov 16 (.t 6)))),
 (none, (.p (.idx 17 1 (.t 15) (.t 16)))),
 (none, (.v (.load 18 false 1 (.t 17)))),
 (none, (.p (.len 19 (.t 18)))),
 (none, (.v (.mov 20 (.t 1)))),
 (none, (.v (.bin 21 .neq false (.t 19) (.t 20))))])
 (.cond 21
 (.seq (.ops [(none, (.v (.build 22 [(.int .i64 0), (.raw (.slice none 0 0))] []))),
 (none, (.e (.store 2 true (.t 4) (.t 22)))),
 (none, (.v (.mov 5 (.c (.int .i64 1)))))])
 .ret)
 .skip)))
 (.ops [(none, (.v (.mov 13 (.t 6)))),
 (none, (.v (.bin 14 .add false (.t 13) (.c (.int .i64 1))))),
 (none, (.v (.mov 6 (.t 14))))]))))))
 (.seq (.seq (.ops [(none, (.v (.mov 23 (.t 1)))),
 (none, (.v (.bin 24 .lss false (.t 23) (.c (.int .i64 0)))))])
 (.cond 24
 (.seq (.ops [(none, (.v (.build 25 [(.int .i64 0), (.raw (.slice none 0 0))] []))),
 (none, (.e (.store 2 true (.t 4) (.t 25)))),
 (none, (.v (.mov 5 (.c (.int .i64 1)))))])
 .ret)
 .skip))
 (.seq (.ops [(none, (.v (.mov 26 (.t 0)))),
 (none, (.p (.len 27 (.t 26)))),
 (none, (.v (.build 28 [(.int .i64 0), (.raw (.slice none 0 0))] [(0, 1, (.t 27))]))),
 (none, (.e (.alloc 7 [(.int .i64 0), (.raw (.slice none 0 0))]))),
 (none, (.e (.store 2 true (.t 7) (.t 28))))])
 (.seq (.seq (.ops [(none, (.v (.mov 8 (.c (.int .i64 0)))))])
 (.block 2 (.loop (.seq (.seq (.ops [(none, (.v (.mov 29 (.t 8)))),
 (none, (.v (.mov 30 (.t 1)))),
 (none, (.v (.bin 31 .lss false (.t 29) (.t 30))))])
 (.cond 31
 .skip
 (.exit 2)))
 (.seq (.block 3 (.any true (.pure0 none (.v (.fld 34 1 (.t 7)))
 (.pure0 none (.v (.mov 36 (.t 0)))
 (.pure0 none (.v (.mov 37 (.t 8)))
 (.alt none (.v (.load 35 false 1 (.t 34)))
 (.alt none (.e (.call (some 38) 33 [(.t 36), (.t 37)]))
 (.alt none (.e (.call (some 39) 32 [(.t 38)]))
 (.pure1 none (.p (.len 40 (.t 39)))
 (.alt none (.e (.mkl 41 3 1 1 (.int .i64 0) [(0, (.t 40))]))
 (.alt none (.e (.app 42 3 1 8 (.t 35) (.t 41)))
 (.pure0 none (.v (.fld 43 1 (.t 7)))
 (.alt none (.e (.store 1 false (.t 43) (.t 42)))
 .done
 .stop))
 .stop)
 .stop))
 .stop)
 .stop)
 (.alt none (.e (.call (some 38) 33 [(.t 36), (.t 37)]))
 (.alt none (.v (.load 35 false 1 (.t 34)))
 (.alt none (.e (.call (some 39) 32 [(.t 38)]))
 (.pure1 none (.p (.len 40 (.t 39)))
 (.alt none (.e (.mkl 41 3 1 1 (.int .i64 0) [(0, (.t 40))]))
 (.alt none (.e (.app 42 3 1 8 (.t 35) (.t 41)))
 (.pure0 none (.v (.fld 43 1 (.t 7)))
 (.alt none (.e (.store 1 false (.t 43) (.t 42)))
 .done
 .stop))
 .stop)
 .stop))
 .stop)
 (.alt none (.e (.call (some 39) 32 [(.t 38)]))
 (.pure1 none (.p (.len 40 (.t 39)))
 (.alt none (.v (.load 35 false 1 (.t 34)))
 (.alt none (.e (.mkl 41 3 1 1 (.int .i64 0) [(0, (.t 40))]))
 (.alt none (.e (.app 42 3 1 8 (.t 35) (.t 41)))
 (.pure0 none (.v (.fld 43 1 (.t 7)))
 (.alt none (.e (.store 1 false (.t 43) (.t 42)))
 .done
 .stop))
 .stop)
 .stop)
 (.alt none (.e (.mkl 41 3 1 1 (.int .i64 0) [(0, (.t 40))]))
 (.alt none (.v (.load 35 false 1 (.t 34)))
 (.alt none (.e (.app 42 3 1 8 (.t 35) (.t 41)))
 (.pure0 none (.v (.fld 43 1 (.t 7)))
 (.alt none (.e (.store 1 false (.t 43) (.t 42)))
 .done
 .stop))
 .stop)
 .stop)
 .stop)))
 .stop))
 .stop)))))))
 (.ops [(none, (.v (.mov 32 (.t 8)))),
 (none, (.v (.bin 33 .add false (.t 32) (.c (.int .i64 1))))),
 (none, (.v (.mov 8 (.t 33))))]))))))
 (.seq (.ops [(none, (.v (.load 44 true 2 (.t 7)))),
 (none, (.e (.store 2 true (.t 4) (.t 44)))),
 (none, (.v (.mov 5 (.c (.int .i64 0)))))])
 .ret))))))
theorem ok12 : FnOk E 12 45 [.cell 4 27, .tmp 5] mc12 := .of func12 (by kernel_rfl) (by kernel_rfl) (by kernel_rfl) (by kernel_rfl) (by kernel_rfl)
end Go.Proofs.Try
namespace Go.Proofs.Try
open Go.Al
set_option linter.unusedVariables false
set_option linter.unusedSimpArgs false
set_option maxRecDepth 20000
set_option maxHeartbeats 8000000

/-! ### a map whose keys are values -/
abbrev WK : D := .wide [.int .i64, .int .i64, .str]
theorem right_fits {v : VL} (h : v.Right) : fitsAll [.int .i64, .int .i64, .str] v.cs = true := by
  have hm := maxLen_eq
  obtain ⟨k, n, s⟩ := v
  have hn : (Lit.int .i64 k).wf = true ∧ (Lit.int .i64 n).wf = true ∧ s.size ≤ maxLen := by
    simp only [VL.Right] at h
    rcases h with ⟨rfl, rfl, rfl⟩ | ⟨rfl, h1, h2, rfl⟩ | ⟨rfl, rfl, h1⟩ | ⟨rfl, h1, rfl⟩
    · refine ⟨by decide, by decide, by rw [hm]; decide⟩
    · refine ⟨by decide, ?_, by rw [hm]; decide⟩
      simp [Lit.wf, IntKind.min, IntKind.max, IntKind.signed, IntKind.bits]; omega
    · refine ⟨by decide, by decide, by rw [hm]; omega⟩
    · refine ⟨by decide, ?_, by rw [hm]; decide⟩
      rcases h1 with rfl | rfl <;> decide
  have h1 : fits1 (.int .i64) (.int .i64 k) = true := by show (IntKind.i64 == IntKind.i64 && (Lit.int .i64 k).wf) = true; rw [hn.1]; rfl
  have h2 : fits1 (.int .i64) (.int .i64 n) = true := by show (IntKind.i64 == IntKind.i64 && (Lit.int .i64 n).wf) = true; rw [hn.2.1]; rfl
  have h3 : fits1 .str (.str s) = true := decide_eq_true hn.2.2
  show (fits1 (.int .i64) (.int .i64 k) && (fits1 (.int .i64) (.int .i64 n) && (fits1 .str (.str s) && true))) = true
  rw [h1, h2, h3]
  rfl
theorem same_vl (u v : VL) : sameAll v.cs u.cs = decide (u = v) := by
  have h : sameAll v.cs u.cs = decide (v = u) := vl_eq v u
  rw [h, decide_eq_decide]
  exact eq_comm
theorem eqK_vl {u v : VL} (hu : u.Right) (hv : v.Right) : eqK WK v.av u.av = some (decide (u = v)) := by
  simp only [eqK, VL.av, right_fits hu, right_fits hv, Bool.and_self, if_true, same_vl]
theorem find_vl {v : VL} (hv : v.Right) : ∀ (l : List VL) (i : Nat), (∀ u ∈ l, u.Right) → (v ∉ l → findK WK v.av (l.map VL.av) i = some none) ∧ (v ∈ l → ∃ j, j < l.length ∧ findK WK v.av (l.map VL.av) i = some (some (i + j)))
  | [], i, _ => ⟨fun _ => rfl, fun h => by simp at h⟩
  | u :: l, i, h => by
    obtain ⟨h1, h2⟩ := find_vl hv l (i + 1) fun w hw => h w (by simp [hw])
    simp only [List.map_cons, findK, eqK_vl (h u (by simp)) hv, List.mem_cons, not_or]
    by_cases hs : u = v
    · simp only [hs, decide_true]
      exact ⟨fun h => (h.1 trivial).elim, fun _ => ⟨0, by simp, rfl⟩⟩
    · simp only [hs, decide_false]
      refine ⟨fun h => h1 h.2, fun h => ?_⟩
      obtain ⟨j, hj, he⟩ := h2 (h.resolve_left fun e => hs e.symm)
      exact ⟨j + 1, by simpa using hj, by rw [he]; congr 2; omega⟩
theorem keys_vl {l : List VL} (h : ∀ u ∈ l, u.Right) : keysOk WK (l.map VL.av) = true := by
  simp only [keysOk, List.all_map, List.all_eq_true]
  intro u hu
  exact right_fits (h u hu)
abbrev trueL (n : Nat) : List AV := List.replicate n (AV.bool true)
theorem put_vl {v : VL} (hv : v.Right) {l : List VL} (h : ∀ u ∈ l, u.Right) (bs : List Nat) (c : Nat) : ∃ bs' c', putK WK (l.map VL.av) (trueL l.length) bs c v.av (.bool true) = some (.map ((if v ∈ l then l else l ++ [v]).map VL.av) (trueL (if v ∈ l then l else l ++ [v]).length) bs' c') := by
  have hk : keyIs WK v.av = true := right_fits hv
  unfold putK
  rw [hk, keys_vl h]
  by_cases hm : v ∈ l
  · obtain ⟨j, hj, he⟩ := (find_vl hv l 0 h).2 hm
    refine ⟨bs, c, ?_⟩
    simp only [if_pos hm, he, Bool.and_self, if_true]
    congr 2
    refine List.ext_getElem? fun i => ?_
    rw [List.getElem?_set]
    split
    · rename_i hi
      subst hi
      simp [trueL, List.getElem?_replicate] <;> omega
    · rfl
  · refine ⟨bs ++ [c], c + 1, ?_⟩
    simp only [if_neg hm, (find_vl hv l 0 h).1 hm, Bool.and_self, if_true, List.map_append, List.map_cons, List.map_nil, List.length_append, List.length_cons, List.length_nil]
    congr 2
    simp [trueL, List.replicate_succ']
theorem valuesC_next {l : List (List VL)} {c i : Nat} (h : i < l.length) : valuesC (l.take (i + 1)) c = valuesC (l.take i) c ++ (if ((l.getD i default).getD c default).k = 0 then [] else [(l.getD i default).getD c default]) := by
  rw [take_succD h, valuesC, List.map_append, List.filter_append]
  congr 1
  simp only [List.map_cons, List.map_nil, List.filter_cons, List.filter_nil]
  split <;> rename_i h <;> simp at h <;> simp [h]
theorem pa_trues {H : List AObj} {l : List Nat} {bor : Bool} {n k : Nat} : (trueL k).map (pa H l bor (n + 1)) = trueL k := by simp [trueL, pa_bool]
theorem ti27 : E.TI 27 = some ⟨.struct [(0, 3), (1, 25)], 2, 32, [.int .i64 0, .slice none 0 0], true, true, false⟩ := rfl
theorem stE_int {P : Program} {m : Nat} {N : FN} {fr : List (Nat × AV)} {H : List AObj} {q : Ke} {xs : List Int} {size id sz sz' n off : Nat} {E' : TypeId} {cs : List AV} {x : Int} (hn : n < xs.length) :
    stE P m N (some (.arr E' sz' (xs.map (AV.int .i64)))) size cs (.int .i64 x) id sz n off fr H q = (sz = sz' ∧ cs.length = size ∧ size = 1 ∧ off = 0 ∧ sz = 1 ∧ rE P m N q fr (H.set id (.arr E' sz' ((xs.set n x).map (AV.int .i64))))) := by
  rw [stE_flat (f := AV.int .i64) (fun _ => trivial) hn, List.map_set]
/-- An empty Stat, or one with a list that is only read from here on. -/
theorem keepSt_i {Q : AV → List AObj → Prop} {H : List AObj} {x : AV} {n e : Int} {l : List Int} (hx : Weak (pa H [] true 6 x) (.view 1 (l.map (AV.int .i64)))) (h : Q (.tup [.agg [.int .i64 n, .view 1 (l.map (AV.int .i64))], .int .i64 e]) []) : keepQ 0 Q (.tup [.agg [.int .i64 n, x], .int .i64 e]) H := by
  refine keepw_i [] true rfl (by simp) rfl (r' := .tup [.agg [.int .i64 n, .view 1 (l.map (AV.int .i64))], .int .i64 e]) ?_ h
  simp only [pa_tup, List.map_cons, List.map_nil, pa_agg, pa_int]
  exact WeakL.tup (WeakL.cons (WeakL.agg (WeakL.cons (.refl _) (WeakL.cons hx (.refl _)))) (.refl _))
theorem c11 (l : List (List VL)) (cols : Int) (hf : fewR l) (hc : cols ≤ 100) : ACalls E.P 11 [.view 1 (l.map rowV), .int .i64 cols] [] (fun r H => r = .tup [.agg [.int .i64 (stOf l cols).1, .view 1 ((stOf l cols).2.1.map (AV.int .i64))], .int .i64 (stOf l cols).2.2] ∧ H = []) := by
  have hmax := maxLen_eq
  have h37 := c37 l 38 [.vp [.int .i64 cols]] (badLen cols) (fun r _ => c38 r cols) (fun _ _ _ => rfl) (fun _ _ _ => rfl)
  have hbad : l.any (badLen cols) = !decide (∀ r ∈ l, (r.length : Int) = cols) := by
    rw [Bool.eq_iff_iff, List.any_eq_true, Bool.not_eq_true', decide_eq_false_iff_not]
    simp [badLen]
  rw [hbad] at h37
  have hno : ofOk l cols = false → stOf l cols = (0, [], 1) := fun h => by rw [stOf, h]; rfl
  refine ok11.acalls hE hm (by simp) fun N hN => ?_
  unfold mc11
  simp only [lA, ptrCells, ptrAdd, isNil, readsV, readsP, isCall, wrote, srcOf, seval]
  repeat' (first
   | (with_reducible apply St.o; constructor) <;> intro _
   | with_reducible first | refine LenR_i fun _ => ?_ | refine And.intro (by omega) ?_ | (apply Sp.o; constructor) | refine mkl_own ?_ | refine frz0_i ?_
   | ((with_reducible apply Sc.o true; constructor); simp only [lP, seval, List.length_map, ti27]; refine ⟨_, h37, ?_⟩; rintro _ _ ⟨rfl, rfl⟩; simp only [lA, lP, ptrCells, ptrAdd, isNil, readsV, readsP, isCall, wrote, srcOf, seval, List.length_map, ti27])
   | simp (maxSteps := 1000000) (disch := omega) only [lE, ptrCells, ptrAdd, isNil, readsV, readsP, isCall, wrote, srcOf, seval, List.length_map, ti27])
  · exfalso; have := hf.2; omega
  · rw [hno (by simp only [ofOk, Bool.and_eq_false_iff, decide_eq_false_iff_not]; exact .inr (by assumption))]
    exact keepSt_i (l := []) weak_nil ⟨rfl, rfl⟩
  · rename_i h1 h2 h3
    obtain ⟨n, rfl⟩ : ∃ n : Nat, cols = n := ⟨cols.toNat, by omega⟩
    have hok : ofOk l n = true := by simp only [ofOk, Bool.and_eq_true, decide_eq_true_eq]; exact ⟨by omega, h3⟩
    have hst : stOf l n = ((l.length : Int), dsts l n, 0) := by rw [stOf, if_pos hok, Int.toNat_natCast]
    rw [hst]
    simp only [Int.toNat_natCast]
    refine loop_i (fun i : Nat => i ≤ n) (fun i => ⟨[(0, .view 1 (l.map rowV)), (3, .op 0 0), (4, .op 1 0), (5, .int .i64 0), (6, .op 3 0), (28, .int .i64 n), (29, .int .i64 i)], [.box [.int .i64 n], .box [.int .i64 0, .raw (.slice none 0 0)], .arr 3 1 ((dsts l i ++ List.replicate (n - i) 0).map (AV.int .i64)), .box [.int .i64 l.length, .slc 2 1 n]]⟩) (fun i => n - i) 0 (by omega) (Ent.to [0, 1, 2, 3] false (by simp) (by simp) rfl (by simp only [lP, seval, dsts, List.range_zero, List.map_nil, List.nil_append, Nat.sub_zero, List.map_replicate] <;> (try simp) <;> (try omega)) (by simp only [lP, seval, dsts, List.range_zero, List.map_nil, List.nil_append, Nat.sub_zero, List.map_replicate] <;> (try simp) <;> (try omega))) ?_
    intro i hi
    have hdl := dsts_len l i
    by_cases hin : i < n
    · repeat' (first
       | (with_reducible apply St.o; constructor) <;> intro _
       | with_reducible first | refine LenR_i fun _ => ?_ | refine And.intro (by omega) ?_ | (apply Sp.o; constructor) | refine mkl_own ?_ | refine frz0_i ?_
       | simp (maxSteps := 1000000) (disch := omega) only [lE, ptrCells, ptrAdd, isNil, readsV, readsP, isCall, wrote, srcOf, seval, List.length_map])
      all_goals try (exfalso; omega)
      refine loop_i (fun s : Nat × List Nat × Nat => s.1 ≤ l.length) (fun s => ⟨[(0, .view 1 (l.map rowV)), (3, .op 0 0), (4, .op 1 0), (5, .int .i64 0), (6, .op 3 0), (7, .int .i64 i), (8, .mp 4), (28, .int .i64 n), (29, .int .i64 i), (33, .view 1 (l.map rowV)), (34, .int .i64 l.length), (35, .int .i64 s.1)], [.box [.int .i64 n], .box [.int .i64 0, .raw (.slice none 0 0)], .arr 3 1 ((dsts l i ++ List.replicate (n - i) 0).map (AV.int .i64)), .box [.int .i64 l.length, .slc 2 1 n], .map ((onceV (valuesC (l.take s.1) i)).map VL.av) (trueL (onceV (valuesC (l.take s.1) i)).length) s.2.1 s.2.2]⟩) (fun s => l.length - s.1) (0, [], 0) (by simp) (Ent.to [0, 1, 2, 3, 4] false (by simp) (by simp) rfl (by simp only [lP, seval, List.length_map, List.take_zero, onceV, valuesC, List.map_nil, List.filter_nil, List.foldl_nil, List.length_nil, List.replicate_zero, pa_ints] <;> (try simp) <;> (try omega)) (by simp only [lP, seval, List.length_map, List.take_zero, onceV, valuesC, List.map_nil, List.filter_nil, List.foldl_nil, List.length_nil, List.replicate_zero, pa_ints] <;> (try simp) <;> (try omega))) ?_
      rintro ⟨j, bs, c⟩ hj
      simp only at hj ⊢
      by_cases hjl : j < l.length
      · have hlen := h3 _ (getD_mem hjl)
        have hnx := valuesC_next (c := i) hjl
        have hvr : ((l.getD j default).getD i default).Right := hf.1 _ (getD_mem hjl) |>.1 _ (getD_mem (by omega))
        have hor : ∀ u ∈ onceV (valuesC (l.take j) i), u.Right := fun u hu => valuesC_right (fun r hr => (hf.1 r (List.mem_of_mem_take hr)).1) u ((onceV_mem _ u).1 hu)
        obtain ⟨bs', c', hput⟩ := put_vl hvr hor bs c
        have hon : onceV (valuesC (l.take (j + 1)) i) = if ((l.getD j default).getD i default).k = 0 then onceV (valuesC (l.take j) i) else if (l.getD j default).getD i default ∈ onceV (valuesC (l.take j) i) then onceV (valuesC (l.take j) i) else onceV (valuesC (l.take j) i) ++ [(l.getD j default).getD i default] := by
          rw [hnx]
          split
          · rw [List.append_nil]
          · exact onceV_snoc _ _
        simp only [vl_av] at hput
        generalize hx : l.getD j default = x at *
        generalize hv : x.getD i default = v at *
        generalize onceV (valuesC (l.take j) i) = q at *
        repeat' (first
         | (with_reducible apply St.o; constructor) <;> intro _
         | with_reducible first | refine LenR_i fun _ => ?_ | refine And.intro (by omega) ?_ | (apply Sp.o; constructor) | refine mkl_own ?_ | refine frz0_i ?_
         | simp (maxSteps := 1000000) (disch := omega) only [lE, ptrCells, ptrAdd, isNil, readsV, readsP, isCall, wrote, srcOf, seval, IdxR_rows, IdxR_vls, Int.toNat_natCast, List.length_map, hx, hv, hput])
        all_goals try (exfalso; omega)
        · rename_i q1 q2
          rw [if_neg q2] at hon
          exact back_i (j + 1, bs', c') (by simp only; omega) (by simp only; omega) (Ent.to [0, 1, 2, 3, 4] false (by simp) (by simp) rfl (by simp only [lP, seval, hon, pa_vls, pa_trues, pa_ints] <;> (try simp) <;> (try omega)) (by simp only [lP, seval, hon, pa_vls, pa_trues, pa_ints] <;> (try simp) <;> (try omega)))
        · rename_i q1 q2
          rw [if_pos q2] at hon
          exact back_i (j + 1, bs, c) (by simp only; omega) (by simp only; omega) (Ent.to [0, 1, 2, 3, 4] false (by simp) (by simp) rfl (by simp only [lP, seval, hon, pa_vls, pa_trues, pa_ints] <;> (try simp) <;> (try omega)) (by simp only [lP, seval, hon, pa_vls, pa_trues, pa_ints] <;> (try simp) <;> (try omega)))
      · have hje : j = l.length := by omega
        subst hje
        rw [List.take_length]
        have hset : (dsts l i ++ List.replicate (n - i) 0).set i ((onceV (valuesC l i)).length : Int) = dsts l (i + 1) ++ List.replicate (n - (i + 1)) 0 := by
          rw [once_diff (valuesC_right fun r hr => (hf.1 r hr).1), List.set_append_right _ _ (by omega), hdl, Nat.sub_self, dsts_succ, show n - i = (n - (i + 1)) + 1 by omega, List.replicate_succ, List.set_cons_zero]
          simp
        have hql : (dsts l i ++ List.replicate (n - i) 0).length = n := by simp [hdl]; omega
        generalize dsts l i ++ List.replicate (n - i) 0 = Q at *
        repeat' (first
         | (with_reducible apply St.o; constructor) <;> intro _
         | with_reducible first | refine LenR_i fun _ => ?_ | refine And.intro (by omega) ?_ | (apply Sp.o; constructor) | refine mkl_own ?_ | refine frz0_i ?_
         | simp (maxSteps := 1000000) (disch := omega) only [lE, ptrCells, ptrAdd, isNil, readsV, readsP, isCall, wrote, srcOf, seval, List.length_map, Int.lt_irrefl, decide_false, Int.toNat_natCast, epR_map, stE_int, hset, ← List.map_set])
        exact back_i (i + 1) (by omega) (by omega) (Ent.to [0, 1, 2, 3] false (by simp) (by simp) rfl (by simp only [lP, seval, pa_ints] <;> (try simp) <;> (try omega)) (by simp only [lP, seval, pa_ints] <;> (try simp) <;> (try omega)))
    · have hie : i = n := by omega
      subst hie
      repeat' (first
       | (with_reducible apply St.o; constructor) <;> intro _
       | with_reducible first | refine LenR_i fun _ => ?_ | refine And.intro (by omega) ?_ | (apply Sp.o; constructor) | refine mkl_own ?_ | refine frz0_i ?_
       | simp (maxSteps := 1000000) (disch := omega) only [lE, ptrCells, ptrAdd, isNil, readsV, readsP, isCall, wrote, srcOf, seval, Int.lt_irrefl, decide_false, ti27])
      refine keepSt_i (l := dsts l i) ?_ ⟨rfl, rfl⟩
      simp only [lP, seval, Nat.sub_self, List.replicate_zero, List.append_nil, List.length_map, hdl]
      exact .refl _
  · rw [hno (by simp only [ofOk, Bool.and_eq_false_iff, decide_eq_false_iff_not]; exact .inl (by omega))]
    exact keepSt_i (l := []) weak_nil ⟨rfl, rfl⟩
theorem lendV {f : FuncId} {args : List AV} {l : List VL} (h : ACalls E.P f args [] (fun r H => r = .slc 0 3 l.length ∧ H = [.arr 40 3 (l.map VL.av)])) : ACalls E.P f args [] (fun r H => r = .view 3 (l.map VL.av) ∧ H = []) :=
  ACalls.keep (h.mono fun r H ⟨hr, hH⟩ => by
    subst hr hH
    refine keep_i [] true (by simp) (by simp) rfl ?_
    simp only [lP, seval, vw_vls, List.length_map, List.take_length])
theorem mem12a : ((1 : Nat) ∈ ([1, 2] : List Nat)) = True := by simp
theorem mem12b : ((2 : Nat) ∈ ([1, 2] : List Nat)) = True := by simp
theorem c12 (l : List (List VL)) (cols : Int) (hf : fewR l) (hc : cols ≤ 100) : ACalls E.P 12 [.view 1 (l.map rowV), .int .i64 cols] [] (fun r H => r = .tup [.agg [.int .i64 (stOf l cols).1, .view 1 ((stOf l cols).2.1.map (AV.int .i64))], .int .i64 (stOf l cols).2.2] ∧ H = []) := by
  have hmax := maxLen_eq
  have hno : ofOk l cols = false → stOf l cols = (0, [], 1) := fun h => by rw [stOf, h]; rfl
  refine ok12.acalls hE hm (by simp) fun N hN => ?_
  unfold mc12
  simp only [lA, ptrCells, ptrAdd, isNil, readsV, readsP, isCall, wrote, srcOf, seval]
  refine loop_i (fun i : Nat => i ≤ l.length ∧ ∀ r ∈ l.take i, (r.length : Int) = cols) (fun i => ⟨[(0, .view 1 (l.map rowV)), (1, .int .i64 cols), (4, .op 0 0), (5, .int .i64 0), (6, .int .i64 i)], [.box [.int .i64 0, .raw (.slice none 0 0)]]⟩) (fun i => l.length - i) 0 ⟨by omega, by simp⟩ (Ent.to [0] false (by simp) (by simp) rfl (by simp only [lP, seval, List.length_map] <;> (try simp) <;> (try omega)) (by simp only [lP, seval, List.length_map] <;> (try simp) <;> (try omega))) ?_
  rintro i ⟨hi, ha⟩
  by_cases hil : i < l.length
  · repeat' (first
     | (with_reducible apply St.o; constructor) <;> intro _
     | with_reducible first | refine LenR_i fun _ => ?_ | refine And.intro (by omega) ?_ | (apply Sp.o; constructor) | refine mkl_own ?_ | refine frz0_i ?_
     | simp (maxSteps := 1000000) (disch := omega) only [lE, ptrCells, ptrAdd, isNil, readsV, readsP, isCall, wrote, srcOf, seval, IdxR_rows, Int.toNat_natCast, List.length_map, ti27])
    all_goals try (exfalso; omega)
    · rename_i h1 h2
      rw [hno (by simp only [ofOk, Bool.and_eq_false_iff, decide_eq_false_iff_not]; exact .inr fun h => by have := h _ (getD_mem hil); omega)]
      exact keepSt_i (l := []) weak_nil ⟨rfl, rfl⟩
    · rename_i h1 h2
      exact back_i (i + 1) ⟨by omega, all_next (by omega) ha (by omega)⟩ (by omega) (Ent.to [0] false (by simp) (by simp) rfl (by simp only [lP, seval] <;> (try simp) <;> (try omega)) (by simp only [lP, seval] <;> (try simp) <;> (try omega)))
  · have hie : i = l.length := by omega
    subst hie
    rw [List.take_length] at ha
    repeat' (first
     | (with_reducible apply St.o; constructor) <;> intro _
     | with_reducible first | refine LenR_i fun _ => ?_ | refine And.intro (by omega) ?_ | (apply Sp.o; constructor) | refine mkl_own ?_ | refine frz0_i ?_
     | simp (maxSteps := 1000000) (disch := omega) only [lE, ptrCells, ptrAdd, isNil, readsV, readsP, isCall, wrote, srcOf, seval, List.length_map, Int.lt_irrefl, decide_false, ti27])
    · rw [hno (by simp only [ofOk, Bool.and_eq_false_iff, decide_eq_false_iff_not]; exact .inl (by omega))]
      exact keepSt_i (l := []) weak_nil ⟨rfl, rfl⟩
    · rename_i h2
      obtain ⟨n, rfl⟩ : ∃ n : Nat, cols = n := ⟨cols.toNat, by omega⟩
      have hok : ofOk l n = true := by simp only [ofOk, Bool.and_eq_true, decide_eq_true_eq]; exact ⟨by omega, ha⟩
      have hst : stOf l n = ((l.length : Int), dsts l n, 0) := by rw [stOf, if_pos hok, Int.toNat_natCast]
      rw [hst]
      refine loop_i (fun i : Nat => i ≤ n) (fun i => ⟨[(0, .view 1 (l.map rowV)), (1, .int .i64 n), (4, .op 0 0), (5, .int .i64 0), (7, .op 1 0), (8, .int .i64 i)], [.box [.int .i64 0, .raw (.slice none 0 0)], .box [.int .i64 l.length, .slc 2 1 i], .arr 3 1 ((dsts l i).map (AV.int .i64))]⟩) (fun i => n - i) 0 (by omega) (Ent.trans (Ent.ghostB 1 1 3 1 (by omega) rfl rfl) (Ent.to [0, 1, 2] false (by simp) (by simp) rfl (by simp only [lP, seval, dsts, List.range_zero, List.map_nil] <;> (try simp) <;> (try omega)) (by simp only [lP, seval, dsts, List.range_zero, List.map_nil] <;> (try simp) <;> (try omega)))) ?_
      intro i hi
      have hdl := dsts_len l i
      by_cases hin : i < n
      · have h33 := lendV (c33 l i (fun r hr => by have := ha r hr; omega) (by have := hf.2; omega))
        have hvl := valuesC_le l i
        have h60 := hf.2
        have hdle := diffV_le (valuesC l i) []
        rw [show (valuesC l i).foldl withV [] = diffV (valuesC l i) from rfl] at hdle
        simp only [List.length_nil] at hdle
        have h32 := lendV (c32 (valuesC l i) (by omega))
        repeat' (first
         | (with_reducible apply St.o; constructor) <;> intro _
         | with_reducible first | refine LenR_i fun _ => ?_ | refine And.intro (by omega) ?_ | (apply Sp.o; constructor) | refine mkl_own ?_ | refine frz0_i ?_
         | ((with_reducible apply Sc.o false; constructor); simp only [lP, seval, Int.toNat_natCast, List.length_map, fillE, List.length_cons, List.length_nil, mem12a, mem12b]; (first | refine ⟨_, h33, ?_⟩ | refine ⟨_, h32, ?_⟩); rintro _ _ ⟨rfl, rfl⟩; simp only [lA, lP, ptrCells, ptrAdd, isNil, readsV, readsP, isCall, wrote, srcOf, seval, Int.toNat_natCast, List.length_map, fillE, List.length_cons, List.length_nil, mem12a, mem12b])
         | with_reducible refine any_i [1, 2] ?_
         | simp (maxSteps := 1000000) (disch := omega) only [lE, ptrCells, ptrAdd, isNil, readsV, readsP, isCall, wrote, srcOf, seval, Int.toNat_natCast, List.length_map, fillE, List.length_cons, List.length_nil, mem12a, mem12b])
        all_goals try (exfalso; omega)
        all_goals exact back_i (i + 1) (by omega) (by omega) (Ent.to [0, 1, 4] false (by simp) (by simp) rfl (by simp only [lP, seval, dsts_succ, hdl, List.map_append, List.map_cons, List.map_nil, pa_ints] <;> (try simp) <;> (try omega)) (by simp only [lP, seval, dsts_succ, hdl, List.map_append, List.map_cons, List.map_nil, pa_ints] <;> (try simp) <;> (try omega)))
      · have hie : i = n := by omega
        subst hie
        repeat' (first
         | (with_reducible apply St.o; constructor) <;> intro _
         | with_reducible first | refine LenR_i fun _ => ?_ | refine And.intro (by omega) ?_ | (apply Sp.o; constructor) | refine mkl_own ?_ | refine frz0_i ?_
         | simp (maxSteps := 1000000) (disch := omega) only [lE, ptrCells, ptrAdd, isNil, readsV, readsP, isCall, wrote, srcOf, seval, Int.lt_irrefl, decide_false, ti27])
        refine keepSt_i (l := dsts l i) ?_ ⟨rfl, rfl⟩
        simp only [lP, seval, List.length_map, hdl]
        exact .refl _
end Go.Proofs.Try

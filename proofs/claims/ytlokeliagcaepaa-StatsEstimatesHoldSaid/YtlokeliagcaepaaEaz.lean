/-
  A part of the proof: see the text of the law.
-/
import Derived.Test.YtlokeliagcaepaaEaq
import Derived.Test.YtlokeliagcaepaaPab
import Derived.Test.YtlokeliagcaepaaAlphaK
set_option linter.unusedSimpArgs false
set_option linter.unusedVariables false
namespace Go.Proofs.Try
open Go.Al
set_option maxRecDepth 100000
/-- alum/alumref39.together -/
def mc71 : MC :=
 (.seq (.ops [(none, (.e (.box 2 (.t 0)))),
 (none, (.e (.box 3 (.t 1)))),
 (none, (.e (.alloc 4 [(.int .i64 0), (.int .i64 0), (.str ⟨#[]⟩), (.int .i64 0), (.int .i64 0), (.str ⟨#[]⟩), (.int .i64 0), (.int .i64 0), (.int .i64 0), (.int .i64 0), (.int .i64 0), (.raw (.slice none 0 0))])))])
 (.seq (.any true (.pure0 none (.v (.fld 6 0 (.t 2)))
 (.pure0 none (.v (.load 7 true 9 (.t 6)))
 (.pure0 none (.v (.fld 8 9 (.t 2)))
 (.pure0 none (.v (.load 9 false 1 (.t 8)))
 (.pure0 none (.v (.fld 10 9 (.t 3)))
 (.pure0 none (.v (.load 11 false 1 (.t 10)))
 (.pure0 none (.v (.bin 12 .add false (.t 9) (.t 11)))
 (.pure0 none (.v (.fld 13 10 (.t 2)))
 (.pure0 none (.v (.load 14 false 1 (.t 13)))
 (.pure0 none (.v (.fld 15 10 (.t 3)))
 (.pure0 none (.v (.load 16 false 1 (.t 15)))
 (.pure0 none (.v (.bin 17 .add false (.t 14) (.t 16)))
 (.pure0 none (.v (.fld 19 11 (.t 2)))
 (.pure0 none (.v (.load 20 false 1 (.t 19)))
 (.pure0 none (.v (.fld 22 11 (.t 3)))
 (.pure0 none (.v (.load 23 false 1 (.t 22)))
 (.alt none (.e (.mkl 18 40 3 0 (.agg [(.int .i64 0), (.int .i64 0), (.str ⟨#[]⟩)]) []))
 (.alt none (.e (.app 21 40 3 32 (.t 18) (.t 20)))
 (.alt none (.e (.app 24 40 3 32 (.t 21) (.t 23)))
 (.pure1 none (.v (.build 25 [(.int .i64 0), (.int .i64 0), (.str ⟨#[]⟩), (.int .i64 0), (.int .i64 0), (.str ⟨#[]⟩), (.int .i64 0), (.int .i64 0), (.int .i64 0), (.int .i64 0), (.int .i64 0), (.raw (.slice none 0 0))] [(0, 9, (.t 7)), (9, 1, (.t 12)), (10, 1, (.t 17)), (11, 1, (.t 24))]))
 (.alt none (.e (.alloc 5 [(.int .i64 0), (.int .i64 0), (.str ⟨#[]⟩), (.int .i64 0), (.int .i64 0), (.str ⟨#[]⟩), (.int .i64 0), (.int .i64 0), (.int .i64 0), (.int .i64 0), (.int .i64 0), (.raw (.slice none 0 0))]))
 (.alt none (.e (.store 12 true (.t 5) (.t 25)))
 .done
 .stop)
 .stop))
 (.alt none (.e (.alloc 5 [(.int .i64 0), (.int .i64 0), (.str ⟨#[]⟩), (.int .i64 0), (.int .i64 0), (.str ⟨#[]⟩), (.int .i64 0), (.int .i64 0), (.int .i64 0), (.int .i64 0), (.int .i64 0), (.raw (.slice none 0 0))]))
 (.alt none (.e (.app 24 40 3 32 (.t 21) (.t 23)))
 (.pure1 none (.v (.build 25 [(.int .i64 0), (.int .i64 0), (.str ⟨#[]⟩), (.int .i64 0), (.int .i64 0), (.str ⟨#[]⟩), (.int .i64 0), (.int .i64 0), (.int .i64 0), (.int .i64 0), (.int .i64 0), (.raw (.slice none 0 0))] [(0, 9, (.t 7)), (9, 1, (.t 12)), (10, 1, (.t 17)), (11, 1, (.t 24))]))
 (.alt none (.e (.store 12 true (.t 5) (.t 25)))
 .done
 .stop))
 .stop)
 .stop))
 (.alt none (.e (.alloc 5 [(.int .i64 0), (.int .i64 0), (.str ⟨#[]⟩), (.int .i64 0), (.int .i64 0), (.str ⟨#[]⟩), (.int .i64 0), (.int .i64 0), (.int .i64 0), (.int .i64 0), (.int .i64 0), (.raw (.slice none 0 0))]))
 (.alt none (.e (.app 21 40 3 32 (.t 18) (.t 20)))
 (.alt none (.e (.app 24 40 3 32 (.t 21) (.t 23)))
 (.pure1 none (.v (.build 25 [(.int .i64 0), (.int .i64 0), (.str ⟨#[]⟩), (.int .i64 0), (.int .i64 0), (.str ⟨#[]⟩), (.int .i64 0), (.int .i64 0), (.int .i64 0), (.int .i64 0), (.int .i64 0), (.raw (.slice none 0 0))] [(0, 9, (.t 7)), (9, 1, (.t 12)), (10, 1, (.t 17)), (11, 1, (.t 24))]))
 (.alt none (.e (.store 12 true (.t 5) (.t 25)))
 .done
 .stop))
 .stop)
 .stop)
 .stop))
 (.alt none (.e (.alloc 5 [(.int .i64 0), (.int .i64 0), (.str ⟨#[]⟩), (.int .i64 0), (.int .i64 0), (.str ⟨#[]⟩), (.int .i64 0), (.int .i64 0), (.int .i64 0), (.int .i64 0), (.int .i64 0), (.raw (.slice none 0 0))]))
 (.alt none (.e (.mkl 18 40 3 0 (.agg [(.int .i64 0), (.int .i64 0), (.str ⟨#[]⟩)]) []))
 (.alt none (.e (.app 21 40 3 32 (.t 18) (.t 20)))
 (.alt none (.e (.app 24 40 3 32 (.t 21) (.t 23)))
 (.pure1 none (.v (.build 25 [(.int .i64 0), (.int .i64 0), (.str ⟨#[]⟩), (.int .i64 0), (.int .i64 0), (.str ⟨#[]⟩), (.int .i64 0), (.int .i64 0), (.int .i64 0), (.int .i64 0), (.int .i64 0), (.raw (.slice none 0 0))] [(0, 9, (.t 7)), (9, 1, (.t 12)), (10, 1, (.t 17)), (11, 1, (.t 24))]))
 (.alt none (.e (.store 12 true (.t 5) (.t 25)))
 .done
 .stop))
 .stop)
 .stop)
 .stop)
 .stop)))))))))))))))))))
 (.seq (.seq (.ops [(none, (.v (.fld 26 0 (.t 3)))),
 (none, (.v (.fld 27 0 (.t 26)))),
 (none, (.v (.load 28 true 3 (.t 27)))),
 (none, (.v (.fld 29 0 (.t 2)))),
 (none, (.v (.fld 30 0 (.t 29)))),
 (none, (.v (.load 31 true 3 (.t 30)))),
 (none, (.e (.call (some 32) 47 [(.t 28), (.t 31)]))),
 (none, (.v (.bin 33 .lss false (.t 32) (.c (.int .i64 0)))))])
 (.cond 33
 (.ops [(none, (.v (.fld 34 0 (.t 3)))),
 (none, (.v (.fld 35 0 (.t 34)))),
 (none, (.v (.load 36 true 3 (.t 35)))),
 (none, (.v (.fld 37 0 (.t 5)))),
 (none, (.v (.fld 38 0 (.t 37)))),
 (none, (.e (.store 3 true (.t 38) (.t 36))))])
 .skip))
 (.seq (.seq (.ops [(none, (.v (.fld 39 0 (.t 3)))),
 (none, (.v (.fld 40 3 (.t 39)))),
 (none, (.v (.load 41 true 3 (.t 40)))),
 (none, (.v (.fld 42 0 (.t 2)))),
 (none, (.v (.fld 43 3 (.t 42)))),
 (none, (.v (.load 44 true 3 (.t 43)))),
 (none, (.e (.call (some 45) 47 [(.t 41), (.t 44)]))),
 (none, (.v (.bin 46 .gtr false (.t 45) (.c (.int .i64 0)))))])
 (.cond 46
 (.ops [(none, (.v (.fld 47 0 (.t 3)))),
 (none, (.v (.fld 48 3 (.t 47)))),
 (none, (.v (.load 49 true 3 (.t 48)))),
 (none, (.v (.fld 50 0 (.t 5)))),
 (none, (.v (.fld 51 3 (.t 50)))),
 (none, (.e (.store 3 true (.t 51) (.t 49))))])
 .skip))
 (.seq (.ops [(none, (.v (.fld 52 0 (.t 2)))),
 (none, (.v (.fld 53 6 (.t 52)))),
 (none, (.v (.load 54 false 1 (.t 53)))),
 (none, (.v (.fld 55 0 (.t 3)))),
 (none, (.v (.fld 56 6 (.t 55)))),
 (none, (.v (.load 57 false 1 (.t 56)))),
 (none, (.v (.bin 58 .add false (.t 54) (.t 57)))),
 (none, (.v (.fld 59 0 (.t 5)))),
 (none, (.v (.fld 60 6 (.t 59)))),
 (none, (.e (.store 1 false (.t 60) (.t 58))))])
 (.seq (.ops [(none, (.v (.fld 61 0 (.t 2)))),
 (none, (.v (.fld 62 8 (.t 61)))),
 (none, (.v (.load 63 false 1 (.t 62)))),
 (none, (.v (.fld 64 0 (.t 3)))),
 (none, (.v (.fld 65 8 (.t 64)))),
 (none, (.v (.load 66 false 1 (.t 65)))),
 (none, (.v (.bin 67 .add false (.t 63) (.t 66)))),
 (none, (.v (.fld 68 0 (.t 5)))),
 (none, (.v (.fld 69 8 (.t 68)))),
 (none, (.e (.store 1 false (.t 69) (.t 67))))])
 (.seq (.ops [(none, (.v (.load 70 true 12 (.t 5)))),
 (none, (.e (.store 12 true (.t 4) (.t 70))))])
 .ret)))))))
theorem ok71 : FnOk E 71 71 [.cell 4 90] mc71 := .of func71 (by kernel_rfl) (by kernel_rfl) (by kernel_rfl) (by kernel_rfl) (by kernel_rfl)
end Go.Proofs.Try
namespace Go.Proofs.Try
open Go.Al
set_option linter.unusedVariables false
set_option linter.unusedSimpArgs false
set_option maxRecDepth 20000
set_option maxHeartbeats 8000000

abbrev Part.cs (p : Part) : List AV := [.int .i64 p.b.lo.k, .int .i64 p.b.lo.n, .str p.b.lo.s, .int .i64 p.b.hi.k, .int .i64 p.b.hi.n, .str p.b.hi.s, .int .i64 p.b.rows, .int .i64 p.b.least, .int .i64 p.b.most, .int .i64 p.left, .int .i64 p.right, .view 3 (p.ends.map VL.av)]
def Part.av (p : Part) : AV := .agg p.cs
theorem part_av (p : Part) : p.av = .agg p.cs := rfl
theorem vw_part {H : List AObj} {l : List Nat} {n : Nat} (v : Part) : vw H l (n + 2) v.av = v.av := by simp [Part.av, vw_agg, vw_int, vw_str, vw_view]
theorem pa_part {H : List AObj} {l : List Nat} {bor : Bool} {n : Nat} (v : Part) : pa H l bor (n + 2) v.av = v.av := by simp [Part.av, pa_agg, pa_int, pa_str, pa_view]
theorem vw_parts {H : List AObj} {l : List Nat} {n : Nat} {xs : List Part} : (xs.map Part.av).map (vw H l (n + 2)) = xs.map Part.av := map_same vw_part xs
theorem pa_parts {H : List AObj} {l : List Nat} {bor : Bool} {n : Nat} {xs : List Part} : (xs.map Part.av).map (pa H l bor (n + 2)) = xs.map Part.av := map_same pa_part xs
theorem IdxR_parts {P : Program} {m : Nat} {N : FN} {xs : List Part} {n : Int} {d : Nat} {c : Kn} (h0 : 0 ≤ n) (h1 : n < xs.length) : IdxR P m N (xs.map Part.av) n d c = rK P m N c d (.vp (xs.getD n.toNat default).cs) :=
  IdxR_map (cs := Part.cs) (fun _ => rfl) h0 h1
structure PartOk (q : Int) (p : Part) : Prop where
  r0 : -q ≤ p.b.rows ∧ p.b.rows ≤ q
  m0 : -q ≤ p.b.most ∧ p.b.most ≤ q
  l0 : -q ≤ p.left ∧ p.left ≤ q
  g0 : -q ≤ p.right ∧ p.right ≤ q
  e0 : p.ends.length ≤ 1000000000
theorem ti90 : E.TI 90 = some ⟨.struct [(0, 66), (9, 3), (10, 3), (11, 63)], 12, 128, [.int .i64 0, .int .i64 0, .string ByteArray.empty, .int .i64 0, .int .i64 0, .string ByteArray.empty, .int .i64 0, .int .i64 0, .int .i64 0, .int .i64 0, .int .i64 0, .slice none 0 0], true, true, false⟩ := rfl
theorem c71 (p q : Part) (hp : PartOk 1000000000000000 p) (hq : PartOk 1000000000000000 q) : ACalls E.P 71 [p.av, q.av] [] (fun r H => r = (p.tog q).av ∧ H = []) := by
  have hmax := maxLen_eq
  obtain ⟨b1, b2, b3, b4, b5⟩ := hp
  obtain ⟨g1, g2, g3, g4, g5⟩ := hq
  have h1 := c47 q.b.lo p.b.lo
  have h2 := c47 q.b.hi p.b.hi
  simp only [vl_av] at h1 h2
  simp only [Part.tog]
  generalize hc1 : q.b.lo.cmp19 p.b.lo = x1 at *
  generalize hc2 : q.b.hi.cmp19 p.b.hi = x2 at *
  refine ok71.acalls hE hm (by simp) fun N hN => ?_
  unfold mc71
  simp only [lA, ptrCells, ptrAdd, isNil, readsV, readsP, isCall, wrote, srcOf, seval, part_av]
  repeat' (first
   | (with_reducible apply St.o; constructor) <;> intro _
   | with_reducible first | refine LenR_i fun _ => ?_ | refine And.intro (by omega) ?_ | (apply Sp.o; constructor) | refine mkl_own ?_ | refine frz0_i ?_ | refine any_i [] ?_
   | ((with_reducible apply Sc.o true; constructor); simp only [lP, seval, List.length_map, ti90, fillE, List.length_nil, List.length_append, List.nil_append]; (first | refine ⟨_, h1, ?_⟩ | refine ⟨_, h2, ?_⟩); rintro _ _ ⟨rfl, rfl⟩; simp only [lA, lP, ptrCells, ptrAdd, isNil, readsV, readsP, isCall, wrote, srcOf, seval, List.length_map, ti90, fillE, List.length_nil, List.length_append, List.nil_append])
   | simp (maxSteps := 1000000) (disch := omega) only [lE, ptrCells, ptrAdd, isNil, readsV, readsP, isCall, wrote, srcOf, seval, List.length_map, ti90, fillE, List.length_nil, List.length_append, List.nil_append])
  all_goals
    simp only [← List.map_append, ← List.length_append]
    refine keep_i [] true (by simp) (by simp) rfl ⟨?_, by simp only [lP, seval]⟩
    simp only [lP, seval, vw_vls, List.length_map, List.take_length]
    simp [*, Part.av]
end Go.Proofs.Try

/-
  A part of the proof: see the text of the law.
-/
import Derived.Test.YtlokeliagcaepaaEaua
import Derived.Test.YtlokeliagcaepaaEay
set_option linter.unusedSimpArgs false
set_option linter.unusedVariables false
namespace Go.Proofs.Try
open Go.Al
set_option maxRecDepth 100000
/-- alum/alumref39.Merge -/
def mc20 : MC :=
 (.seq (.ops [(none, (.e (.box 2 (.t 0)))),
 (none, (.e (.box 3 (.t 1)))),
 (none, (.e (.alloc 4 [(.int .i64 0), (.int .i64 0), (.raw (.slice none 0 0))]))),
 (none, (.v (.mov 5 (.c (.int .i64 0)))))])
 (.seq (.seq (.any false (.pure0 none (.v (.fld 14 2 (.t 2)))
 (.pure0 none (.v (.load 15 false 1 (.t 14)))
 (.pure0 none (.p (.len 16 (.t 15)))
 (.pure0 none (.v (.bin 17 .gtr false (.t 16) (.c (.int .i64 0))))
 (.pure0 none (.v (.mov 18 (.t 17)))
 (.pure0 (some (18, true)) (.v (.fld 19 2 (.t 3)))
 (.pure0 (some (18, true)) (.v (.load 20 false 1 (.t 19)))
 (.pure0 (some (18, true)) (.p (.len 21 (.t 20)))
 (.pure0 (some (18, true)) (.v (.bin 22 .gtr false (.t 21) (.c (.int .i64 0))))
 (.pure0 none (.v (.pick 23 (.t 18) (.t 22) (.c (.bool false))))
 (.pure0 none (.v (.mov 24 (.t 23)))
 (.pure0 (some (24, true)) (.v (.fld 25 2 (.t 2)))
 (.pure0 (some (24, true)) (.v (.load 26 false 1 (.t 25)))
 (.pure0 (some (24, true)) (.p (.idx 27 9 (.t 26) (.c (.int .i64 0))))
 (.pure0 (some (24, true)) (.v (.fld 28 0 (.t 27)))
 (.pure0 (some (24, true)) (.v (.fld 29 0 (.t 28)))
 (.pure0 (some (24, true)) (.v (.load 30 false 1 (.t 29)))
 (.pure0 (some (24, true)) (.v (.fld 31 2 (.t 3)))
 (.pure0 (some (24, true)) (.v (.load 32 false 1 (.t 31)))
 (.pure0 (some (24, true)) (.p (.idx 33 9 (.t 32) (.c (.int .i64 0))))
 (.pure0 (some (24, true)) (.v (.fld 34 0 (.t 33)))
 (.pure0 (some (24, true)) (.v (.fld 35 0 (.t 34)))
 (.pure0 (some (24, true)) (.v (.load 36 false 1 (.t 35)))
 (.pure0 (some (24, true)) (.v (.bin 37 .neq false (.t 30) (.t 36)))
 (.pure0 none (.v (.pick 38 (.t 24) (.t 37) (.c (.bool false))))
 .done))))))))))))))))))))))))))
 (.cond 38
 (.seq (.ops [(none, (.v (.build 39 [(.int .i64 0), (.int .i64 0), (.raw (.slice none 0 0))] []))),
 (none, (.e (.store 3 true (.t 4) (.t 39)))),
 (none, (.v (.mov 5 (.c (.int .i64 7)))))])
 .ret)
 .skip))
 (.seq (.seq (.ops [(none, (.v (.fld 40 0 (.t 2)))),
 (none, (.v (.load 41 false 1 (.t 40)))),
 (none, (.v (.fld 42 0 (.t 3)))),
 (none, (.v (.load 43 false 1 (.t 42)))),
 (none, (.v (.bin 44 .add false (.t 41) (.t 43)))),
 (none, (.v (.bin 45 .gtr false (.t 44) (.c (.int .i64 16777216)))))])
 (.cond 45
 (.seq (.ops [(none, (.v (.build 46 [(.int .i64 0), (.int .i64 0), (.raw (.slice none 0 0))] []))),
 (none, (.e (.store 3 true (.t 4) (.t 46)))),
 (none, (.v (.mov 5 (.c (.int .i64 2)))))])
 .ret)
 .skip))
 (.seq (.ops [(none, (.v (.mov 6 (.c (.raw (.slice none 0 0))))))])
 (.seq (.seq (.ops [(none, (.v (.mov 7 (.c (.int .i64 0)))))])
 (.block 0 (.loop (.seq (.seq (.ops [(none, (.v (.mov 47 (.t 7)))),
 (none, (.v (.fld 48 2 (.t 2)))),
 (none, (.v (.load 49 false 1 (.t 48)))),
 (none, (.p (.len 50 (.t 49)))),
 (none, (.v (.bin 51 .lss false (.t 47) (.t 50))))])
 (.cond 51
 .skip
 (.exit 0)))
 (.seq (.block 1 (.seq (.ops [(none, (.v (.fld 54 2 (.t 2)))),
 (none, (.v (.load 55 false 1 (.t 54)))),
 (none, (.v (.mov 56 (.t 7)))),
 (none, (.p (.idx 57 9 (.t 55) (.t 56)))),
 (none, (.v (.load 58 true 9 (.t 57)))),
 (none, (.e (.alloc 8 [(.int .i64 0), (.int .i64 0), (.str ⟨#[]⟩), (.int .i64 0), (.int .i64 0), (.str ⟨#[]⟩), (.int .i64 0), (.int .i64 0), (.int .i64 0)]))),
 (none, (.e (.store 9 true (.t 8) (.t 58))))])
 (.ops [(none, (.v (.mov 59 (.t 6)))),
 (none, (.v (.load 60 true 9 (.t 8)))),
 (none, (.v (.fld 61 7 (.t 8)))),
 (none, (.v (.load 62 false 1 (.t 61)))),
 (none, (.v (.fld 63 0 (.t 8)))),
 (none, (.v (.load 64 true 3 (.t 63)))),
 (none, (.v (.fld 65 3 (.t 8)))),
 (none, (.v (.load 66 true 3 (.t 65)))),
 (none, (.e (.mkl 67 40 3 2 (.agg [(.int .i64 0), (.int .i64 0), (.str ⟨#[]⟩)]) [(0, (.t 64)), (1, (.t 66))]))),
 (none, (.v (.build 68 [(.int .i64 0), (.int .i64 0), (.str ⟨#[]⟩), (.int .i64 0), (.int .i64 0), (.str ⟨#[]⟩), (.int .i64 0), (.int .i64 0), (.int .i64 0), (.int .i64 0), (.int .i64 0), (.raw (.slice none 0 0))] [(0, 9, (.t 60)), (9, 1, (.t 62)), (11, 1, (.t 67))]))),
 (none, (.e (.call (some 69) 53 [(.t 59), (.t 68)]))),
 (none, (.v (.mov 6 (.t 69))))])))
 (.ops [(none, (.v (.mov 52 (.t 7)))),
 (none, (.v (.bin 53 .add false (.t 52) (.c (.int .i64 1))))),
 (none, (.v (.mov 7 (.t 53))))]))))))
 (.seq (.seq (.ops [(none, (.v (.mov 9 (.c (.int .i64 0)))))])
 (.block 2 (.loop (.seq (.seq (.ops [(none, (.v (.mov 70 (.t 9)))),
 (none, (.v (.fld 71 2 (.t 3)))),
 (none, (.v (.load 72 false 1 (.t 71)))),
 (none, (.p (.len 73 (.t 72)))),
 (none, (.v (.bin 74 .lss false (.t 70) (.t 73))))])
 (.cond 74
 .skip
 (.exit 2)))
 (.seq (.block 3 (.seq (.ops [(none, (.v (.fld 77 2 (.t 3)))),
 (none, (.v (.load 78 false 1 (.t 77)))),
 (none, (.v (.mov 79 (.t 9)))),
 (none, (.p (.idx 80 9 (.t 78) (.t 79)))),
 (none, (.v (.load 81 true 9 (.t 80)))),
 (none, (.e (.alloc 10 [(.int .i64 0), (.int .i64 0), (.str ⟨#[]⟩), (.int .i64 0), (.int .i64 0), (.str ⟨#[]⟩), (.int .i64 0), (.int .i64 0), (.int .i64 0)]))),
 (none, (.e (.store 9 true (.t 10) (.t 81))))])
 (.ops [(none, (.v (.mov 82 (.t 6)))),
 (none, (.v (.load 83 true 9 (.t 10)))),
 (none, (.v (.fld 84 7 (.t 10)))),
 (none, (.v (.load 85 false 1 (.t 84)))),
 (none, (.v (.fld 86 0 (.t 10)))),
 (none, (.v (.load 87 true 3 (.t 86)))),
 (none, (.v (.fld 88 3 (.t 10)))),
 (none, (.v (.load 89 true 3 (.t 88)))),
 (none, (.e (.mkl 90 40 3 2 (.agg [(.int .i64 0), (.int .i64 0), (.str ⟨#[]⟩)]) [(0, (.t 87)), (1, (.t 89))]))),
 (none, (.v (.build 91 [(.int .i64 0), (.int .i64 0), (.str ⟨#[]⟩), (.int .i64 0), (.int .i64 0), (.str ⟨#[]⟩), (.int .i64 0), (.int .i64 0), (.int .i64 0), (.int .i64 0), (.int .i64 0), (.raw (.slice none 0 0))] [(0, 9, (.t 83)), (10, 1, (.t 85)), (11, 1, (.t 90))]))),
 (none, (.e (.call (some 92) 53 [(.t 82), (.t 91)]))),
 (none, (.v (.mov 6 (.t 92))))])))
 (.ops [(none, (.v (.mov 75 (.t 9)))),
 (none, (.v (.bin 76 .add false (.t 75) (.c (.int .i64 1))))),
 (none, (.v (.mov 9 (.t 76))))]))))))
 (.seq (.ops [(none, (.v (.fld 93 0 (.t 2)))),
 (none, (.v (.load 94 false 1 (.t 93)))),
 (none, (.v (.fld 95 0 (.t 3)))),
 (none, (.v (.load 96 false 1 (.t 95)))),
 (none, (.v (.bin 97 .add false (.t 94) (.t 96)))),
 (none, (.v (.fld 98 1 (.t 2)))),
 (none, (.v (.load 99 false 1 (.t 98)))),
 (none, (.v (.fld 100 1 (.t 3)))),
 (none, (.v (.load 101 false 1 (.t 100)))),
 (none, (.v (.bin 102 .add false (.t 99) (.t 101)))),
 (none, (.v (.build 103 [(.int .i64 0), (.int .i64 0), (.raw (.slice none 0 0))] [(0, 1, (.t 97)), (1, 1, (.t 102))]))),
 (none, (.e (.alloc 11 [(.int .i64 0), (.int .i64 0), (.raw (.slice none 0 0))]))),
 (none, (.e (.store 3 true (.t 11) (.t 103))))])
 (.seq (.seq (.ops [(none, (.v (.mov 12 (.c (.int .i64 0)))))])
 (.block 4 (.loop (.seq (.seq (.ops [(none, (.v (.mov 104 (.t 12)))),
 (none, (.v (.mov 105 (.t 6)))),
 (none, (.p (.len 106 (.t 105)))),
 (none, (.v (.bin 107 .lss false (.t 104) (.t 106))))])
 (.cond 107
 .skip
 (.exit 4)))
 (.seq (.block 5 (.seq (.ops [(none, (.v (.mov 110 (.t 6)))),
 (none, (.v (.mov 111 (.t 12)))),
 (none, (.p (.idx 112 12 (.t 110) (.t 111)))),
 (none, (.v (.fld 113 0 (.t 112)))),
 (none, (.v (.load 114 true 9 (.t 113)))),
 (none, (.e (.alloc 13 [(.int .i64 0), (.int .i64 0), (.str ⟨#[]⟩), (.int .i64 0), (.int .i64 0), (.str ⟨#[]⟩), (.int .i64 0), (.int .i64 0), (.int .i64 0)]))),
 (none, (.e (.store 9 true (.t 13) (.t 114))))])
 (.seq (.any true (.pure0 none (.v (.mov 115 (.t 6)))
 (.pure0 none (.v (.mov 116 (.t 12)))
 (.pure0 none (.p (.idx 117 12 (.t 115) (.t 116)))
 (.pure0 none (.v (.fld 118 9 (.t 117)))
 (.pure0 none (.v (.load 119 false 1 (.t 118)))
 (.pure0 none (.v (.mov 120 (.t 6)))
 (.pure0 none (.v (.mov 121 (.t 12)))
 (.pure0 none (.p (.idx 122 12 (.t 120) (.t 121)))
 (.pure0 none (.v (.fld 123 10 (.t 122)))
 (.pure0 none (.v (.load 124 false 1 (.t 123)))
 (.pure0 none (.v (.mov 125 (.t 6)))
 (.pure0 none (.v (.mov 126 (.t 12)))
 (.pure0 none (.p (.idx 127 12 (.t 125) (.t 126)))
 (.pure0 none (.v (.fld 128 11 (.t 127)))
 (.pure0 none (.v (.load 129 false 1 (.t 128)))
 (.alt none (.e (.call (some 130) 32 [(.t 129)]))
 (.pure1 none (.p (.len 131 (.t 130)))
 (.pure1 none (.v (.max 132 [(.t 124), (.t 131)]))
 (.pure1 none (.v (.max 133 [(.t 119), (.t 132)]))
 (.pure0 none (.v (.fld 134 7 (.t 13)))
 (.alt none (.e (.store 1 false (.t 134) (.t 133)))
 .done
 .stop)))))
 .stop)))))))))))))))))
 (.seq (.ops [(none, (.v (.fld 135 8 (.t 13)))),
 (none, (.v (.load 136 false 1 (.t 135)))),
 (none, (.v (.fld 137 6 (.t 13)))),
 (none, (.v (.load 138 false 1 (.t 137)))),
 (none, (.v (.min 139 [(.t 136), (.t 138)]))),
 (none, (.v (.fld 140 8 (.t 13)))),
 (none, (.e (.store 1 false (.t 140) (.t 139))))])
 (.seq (.seq (.ops [(none, (.v (.fld 141 0 (.t 13)))),
 (none, (.v (.load 142 true 3 (.t 141)))),
 (none, (.v (.fld 143 3 (.t 13)))),
 (none, (.v (.load 144 true 3 (.t 143)))),
 (none, (.v (.eq 145 false (.agg [(0, false, 1, .int), (1, false, 1, .int), (2, false, 1, .str)]) (.t 142) (.t 144))))])
 (.cond 145
 (.seq (.ops [(none, (.v (.fld 146 7 (.t 13)))),
 (none, (.e (.store 1 false (.t 146) (.c (.int .i64 1)))))])
 (.ops [(none, (.v (.fld 147 8 (.t 13)))),
 (none, (.e (.store 1 false (.t 147) (.c (.int .i64 1)))))]))
 .skip))
 (.ops [(none, (.v (.fld 148 2 (.t 11)))),
 (none, (.v (.load 149 false 1 (.t 148)))),
 (none, (.v (.load 150 true 9 (.t 13)))),
 (none, (.e (.mkl 151 66 9 1 (.agg [(.int .i64 0), (.int .i64 0), (.str ⟨#[]⟩), (.int .i64 0), (.int .i64 0), (.str ⟨#[]⟩), (.int .i64 0), (.int .i64 0), (.int .i64 0)]) [(0, (.t 150))]))),
 (none, (.e (.app 152 66 9 88 (.t 149) (.t 151)))),
 (none, (.v (.fld 153 2 (.t 11)))),
 (none, (.e (.store 1 false (.t 153) (.t 152))))]))))))
 (.ops [(none, (.v (.mov 108 (.t 12)))),
 (none, (.v (.bin 109 .add false (.t 108) (.c (.int .i64 1))))),
 (none, (.v (.mov 12 (.t 109))))]))))))
 (.seq (.ops [(none, (.v (.load 154 true 3 (.t 11)))),
 (none, (.e (.store 3 true (.t 4) (.t 154)))),
 (none, (.v (.mov 5 (.c (.int .i64 0)))))])
 .ret)))))))))
theorem ok20 : FnOk E 20 155 [.cell 4 33, .tmp 5] mc20 := .of func20 (by kernel_rfl) (by kernel_rfl) (by kernel_rfl) (by kernel_rfl) (by kernel_rfl)
end Go.Proofs.Try
namespace Go.Proofs.Try
open Go.Al
set_option linter.unusedVariables false
set_option linter.unusedSimpArgs false
set_option maxRecDepth 20000
set_option maxHeartbeats 8000000

theorem wts_put (l : List Part) (p : Part) : wts (putR l p) = wts l + p.wt ∧ (putR l p).length = l.length + 1 := by
  obtain ⟨A, B, h1, h2, _, _⟩ := putR_spec l p
  have e := congrArg wts h1
  have e2 := congrArg List.length h1
  rw [h2]
  simp only [wts_append, wts_cons, List.length_append, List.length_cons] at e e2 ⊢
  omega
theorem wts_add : ∀ (n : Nat) (l : List Part) (p : Part), l.length = n → wts (addR n l p) ≤ wts l + p.wt ∧ (addR n l p).length ≤ l.length + 1
  | 0, l, p, _ => by
    have := wts_put l p
    rw [addR]
    omega
  | n + 1, l, p, hn => by
    rw [addR]
    cases hf : findM l p with
    | none =>
      have := wts_put l p
      simp only
      omega
    | some k =>
      obtain ⟨hk, _, _⟩ := List.findIdx?_eq_some_iff_getElem.1 hf
      have h1 := wts_at hk
      have h2 := wt_tog p (l.getD k default)
      have hl : (l.take k ++ l.drop (k + 1)).length = n := by simp; omega
      obtain ⟨h3, h4⟩ := wts_add n (l.take k ++ l.drop (k + 1)) (p.tog (l.getD k default)) hl
      simp only
      omega
theorem addAll_snoc (l ps : List Part) (p : Part) : addAll l (ps ++ [p]) = addR (addAll l ps).length (addAll l ps) p := by
  rw [addAll, List.foldl_append]; rfl
theorem wts_addAll (l : List Part) (W : Nat) : ∀ ps : List Part, (∀ p ∈ ps, p.wt ≤ W) → wts (addAll l ps) ≤ wts l + ps.length * W ∧ (addAll l ps).length ≤ l.length + ps.length := by
  intro ps
  induction ps generalizing l with
  | nil => intro _; simp [addAll]
  | cons p ps ih =>
    intro h
    have h1 := wts_add l.length l p rfl
    have h2 := ih (addR l.length l p) fun q hq => h q (by simp [hq])
    have h3 := h p (by simp)
    have e : addAll l (p :: ps) = addAll (addR l.length l p) ps := rfl
    rw [e, List.length_cons, Nat.add_mul, Nat.one_mul]
    omega
theorem wt_bar {x : Bar} (h : BarOk x) : (partX x).wt ≤ 60000000 ∧ (partY x).wt ≤ 60000000 := by
  have h1 := h.rows0; have h2 := h.rows; have h3 := h.least0; have h4 := h.least; have h5 := h.most0; have h6 := h.most
  simp only [Part.wt, partX, partY, List.length_cons, List.length_nil]
  omega
theorem take_map_snoc {α β : Type} [Inhabited α] (f : α → β) {l : List α} {i : Nat} (h : i < l.length) : (l.take (i + 1)).map f = (l.take i).map f ++ [f (l.getD i default)] := by
  rw [take_succD h, List.map_append]; rfl
def tl4 (c : MC) : MC := tl (tl (tl (tl c)))
theorem mergeRef (N : FN) (hN : N.ro = none) (ar an br bn : Int) (xs ys : List Bar) (hx : ∀ x ∈ xs, BarOk x) (hy : ∀ x ∈ ys, BarOk x) (ha : 0 ≤ ar ∧ ar ≤ 16777216 ∧ 0 ≤ an ∧ an ≤ 16777216) (hb : 0 ≤ br ∧ br ≤ 16777216 ∧ 0 ≤ bn ∧ bn ≤ 16777216) (hla : xs.length ≤ 1024) (hlb : ys.length ≤ 1024) :
    MF E.P 0 N 0 (tl (tl (tl (tl mc20)))) (endQ E [.cell 4 33, .tmp 5] (keepQ 0 (fun r H => r = .tup [(Hist.mk (ar + br) (an + bn) (mergeR xs ys)).av, .int .i64 0] ∧ H = [])))
      ⟨[(2, .op 0 0), (3, .op 1 0), (4, .op 2 0), (5, .int .i64 0), (6, .view 12 [])], [.box (Hist.mk ar an xs).cs, .box (Hist.mk br bn ys).cs, .box [.int .i64 0, .int .i64 0, .raw (.slice none 0 0)]]⟩ := by
  have hmax := maxLen_eq
  have hpx : ∀ p ∈ xs.map partX, p.wt ≤ 60000000 := fun p hp => by
    obtain ⟨x, hx', rfl⟩ := List.mem_map.1 hp
    exact (wt_bar (hx x hx')).1
  have hpy : ∀ p ∈ ys.map partY, p.wt ≤ 60000000 := fun p hp => by
    obtain ⟨x, hx', rfl⟩ := List.mem_map.1 hp
    exact (wt_bar (hy x hx')).2
  refine mf_last ?_
  unfold mc20
  simp only [tl, lA, ptrCells, ptrAdd, isNil, readsV, readsP, isCall, wrote, srcOf, seval]
  refine loop_i (fun i : Nat => i ≤ xs.length) (fun i => ⟨[(2, .op 0 0), (3, .op 1 0), (4, .op 2 0), (5, .int .i64 0), (6, .view 12 ((addAll [] ((xs.take i).map partX)).map Part.av)), (7, .int .i64 i)], [.box (Hist.mk ar an xs).cs, .box (Hist.mk br bn ys).cs, .box [.int .i64 0, .int .i64 0, .raw (.slice none 0 0)]]⟩) (fun i => xs.length - i) 0 (by omega) (Ent.to [0, 1, 2] false (by simp) (by simp) rfl (by simp only [lP, seval, List.take_zero, List.map_nil, addAll, List.foldl_nil] <;> (try simp) <;> (try omega)) (by simp only [lP, seval, List.take_zero, List.map_nil, addAll, List.foldl_nil] <;> (try simp) <;> (try omega))) ?_
  intro i hi
  by_cases hil : i < xs.length
  · have hnx := take_map_snoc partX hil
    obtain ⟨hw1, hw2⟩ := wts_addAll [] 60000000 ((xs.take i).map partX) (fun p hp => hpx p (by
      obtain ⟨x, hx', rfl⟩ := List.mem_map.1 hp
      exact List.mem_map_of_mem (List.mem_of_mem_take hx')))
    have hwp := hpx (partX (xs.getD i default)) (List.mem_map_of_mem (getD_mem hil))
    have hw0 : wts [] = 0 := rfl
    simp only [List.length_map, List.length_take, List.length_nil, hw0] at hw1 hw2
    have h53 := c53 _ (addAll [] ((xs.take i).map partX)) (partX (xs.getD i default)) rfl (by omega) (by omega)
    rw [← addAll_snoc, ← hnx] at h53
    simp only [part_av, Part.cs, partX, List.map_cons, List.map_nil, vl_av] at h53
    generalize hxx : xs.getD i default = x at *
    repeat' (first
     | (with_reducible apply St.o; constructor) <;> intro _
     | ((with_reducible refine mkl_view ?_ ?_ ?_); (focus decide); (focus rfl))
     | with_reducible first | refine LenR_i fun _ => ?_ | refine And.intro (by omega) ?_ | (apply Sp.o; constructor) | refine mkl_own ?_ | refine frz0_i ?_
     | ((with_reducible apply Sc.o false; constructor); simp only [lP, seval, IdxR_bars, hxx, Int.toNat_natCast, List.length_map, fillE, List.length_cons, List.length_nil, pa_parts, pa_vls]; refine ⟨_, h53, ?_⟩; rintro _ _ ⟨rfl, rfl⟩; simp only [lA, lP, ptrCells, ptrAdd, isNil, readsV, readsP, isCall, wrote, srcOf, seval, IdxR_bars, hxx, Int.toNat_natCast, List.length_map, fillE, List.length_cons, List.length_nil, pa_parts, pa_vls])
     | simp (maxSteps := 1000000) (disch := omega) only [lE, ptrCells, ptrAdd, isNil, readsV, readsP, isCall, wrote, srcOf, seval, IdxR_bars, hxx, Int.toNat_natCast, List.length_map, fillE, List.length_cons, List.length_nil, pa_parts, pa_vls])
    all_goals try (exfalso; omega)
    all_goals exact back_i (i + 1) (by omega) (by omega) (Ent.to [0, 1, 2] false (by simp) (by simp) rfl (by simp only [lP, seval, pa_parts] <;> (try simp) <;> (try omega)) (by simp only [lP, seval, pa_parts] <;> (try simp) <;> (try omega)))
  · have hie : i = xs.length := by omega
    subst hie
    rw [List.take_length]
    repeat' (first
     | (with_reducible apply St.o; constructor) <;> intro _
     | with_reducible first | refine LenR_i fun _ => ?_ | refine And.intro (by omega) ?_ | (apply Sp.o; constructor) | refine mkl_own ?_ | refine frz0_i ?_
     | simp (maxSteps := 1000000) (disch := omega) only [lE, ptrCells, ptrAdd, isNil, readsV, readsP, isCall, wrote, srcOf, seval, Int.lt_irrefl, decide_false, List.length_map])
    obtain ⟨hw1, hw2⟩ := wts_addAll [] 60000000 (xs.map partX) hpx
    have hw0 : wts [] = 0 := rfl
    simp only [List.length_map, List.length_nil, hw0] at hw1 hw2
    have hall : addAll [] (xs.map partX ++ ys.map partY) = addAll (addAll [] (xs.map partX)) (ys.map partY) := by rw [addAll, List.foldl_append]; rfl
    generalize addAll [] (xs.map partX) = L at *
    refine loop_i (fun i : Nat => i ≤ ys.length) (fun i => ⟨[(2, .op 0 0), (3, .op 1 0), (4, .op 2 0), (5, .int .i64 0), (6, .view 12 ((addAll L ((ys.take i).map partY)).map Part.av)), (9, .int .i64 i)], [.box (Hist.mk ar an xs).cs, .box (Hist.mk br bn ys).cs, .box [.int .i64 0, .int .i64 0, .raw (.slice none 0 0)]]⟩) (fun i => ys.length - i) 0 (by omega) (Ent.to [0, 1, 2] false (by simp) (by simp) rfl (by simp only [lP, seval, List.take_zero, List.map_nil, addAll, List.foldl_nil] <;> (try simp) <;> (try omega)) (by simp only [lP, seval, List.take_zero, List.map_nil, addAll, List.foldl_nil] <;> (try simp) <;> (try omega))) ?_
    intro i hi2
    by_cases hil2 : i < ys.length
    · have hnx := take_map_snoc partY hil2
      obtain ⟨hw3, hw4⟩ := wts_addAll L 60000000 ((ys.take i).map partY) (fun p hp => hpy p (by
        obtain ⟨x, hx', rfl⟩ := List.mem_map.1 hp
        exact List.mem_map_of_mem (List.mem_of_mem_take hx')))
      have hwp := hpy (partY (ys.getD i default)) (List.mem_map_of_mem (getD_mem hil2))
      simp only [List.length_map, List.length_take] at hw3 hw4
      have h53 := c53 _ (addAll L ((ys.take i).map partY)) (partY (ys.getD i default)) rfl (by omega) (by omega)
      rw [← addAll_snoc, ← hnx] at h53
      simp only [part_av, Part.cs, partY, List.map_cons, List.map_nil, vl_av] at h53
      generalize hxx : ys.getD i default = x at *
      repeat' (first
       | (with_reducible apply St.o; constructor) <;> intro _
       | ((with_reducible refine mkl_view ?_ ?_ ?_); (focus decide); (focus rfl))
       | with_reducible first | refine LenR_i fun _ => ?_ | refine And.intro (by omega) ?_ | (apply Sp.o; constructor) | refine mkl_own ?_ | refine frz0_i ?_
       | ((with_reducible apply Sc.o false; constructor); simp only [lP, seval, IdxR_bars, hxx, Int.toNat_natCast, List.length_map, fillE, List.length_cons, List.length_nil, pa_parts, pa_vls]; refine ⟨_, h53, ?_⟩; rintro _ _ ⟨rfl, rfl⟩; simp only [lA, lP, ptrCells, ptrAdd, isNil, readsV, readsP, isCall, wrote, srcOf, seval, IdxR_bars, hxx, Int.toNat_natCast, List.length_map, fillE, List.length_cons, List.length_nil, pa_parts, pa_vls])
       | simp (maxSteps := 1000000) (disch := omega) only [lE, ptrCells, ptrAdd, isNil, readsV, readsP, isCall, wrote, srcOf, seval, IdxR_bars, hxx, Int.toNat_natCast, List.length_map, fillE, List.length_cons, List.length_nil, pa_parts, pa_vls])
      all_goals try (exfalso; omega)
      all_goals exact back_i (i + 1) (by omega) (by omega) (Ent.to [0, 1, 2] false (by simp) (by simp) rfl (by simp only [lP, seval, pa_parts] <;> (try simp) <;> (try omega)) (by simp only [lP, seval, pa_parts] <;> (try simp) <;> (try omega)))
    · have hie : i = ys.length := by omega
      subst hie
      rw [List.take_length]
      repeat' (first
       | (with_reducible apply St.o; constructor) <;> intro _
       | with_reducible first | refine LenR_i fun _ => ?_ | refine And.intro (by omega) ?_ | (apply Sp.o; constructor) | refine mkl_own ?_ | refine frz0_i ?_
       | simp (maxSteps := 1000000) (disch := omega) only [lE, ptrCells, ptrAdd, isNil, readsV, readsP, isCall, wrote, srcOf, seval, Int.lt_irrefl, decide_false, List.length_map])
      obtain ⟨hw3, hw4⟩ := wts_addAll L 60000000 (ys.map partY) hpy
      simp only [List.length_map] at hw3 hw4
      rw [← hall] at hw3 hw4 ⊢
      have hmr : mergeR xs ys = (addAll [] (xs.map partX ++ ys.map partY)).map Part.fin := rfl
      rw [hmr]
      generalize addAll [] (xs.map partX ++ ys.map partY) = M at *
      clear hall
      refine loop_i (fun i : Nat => i ≤ M.length) (fun i => ⟨[(4, .op 2 0), (5, .int .i64 0), (6, .view 12 (M.map Part.av)), (11, .op 3 0), (12, .int .i64 i)], [.box (Hist.mk ar an xs).cs, .box (Hist.mk br bn ys).cs, .box [.int .i64 0, .int .i64 0, .raw (.slice none 0 0)], .box [.int .i64 (ar + br), .int .i64 (an + bn), .slc 4 9 i], .arr 66 9 (((M.take i).map Part.fin).map Bar.av)]⟩) (fun i => M.length - i) 0 (by omega) (Ent.trans (Ent.ghostB 3 2 66 9 (by omega) rfl rfl) (Ent.to [0, 1, 2, 3, 4] false (by simp) (by simp) rfl (by simp only [lP, seval, List.take_zero, List.map_nil] <;> (try simp) <;> (try omega)) (by simp only [lP, seval, List.take_zero, List.map_nil] <;> (try simp) <;> (try omega)))) ?_
      intro i hi3
      by_cases hil3 : i < M.length
      · have hnx := take_map_snoc Part.fin hil3
        have hwm := wts_mem (getD_mem hil3)
        have hml : (M.take i).length = i := by simp; omega
        generalize hpp : M.getD i default = p at *
        have hwt : p.ends.length * 1000000 ≤ p.wt := by unfold Part.wt; omega
        have h32 := lendV (c32 p.ends (by omega))
        have hdl := diffV_le p.ends []
        rw [show p.ends.foldl withV [] = diffV p.ends from rfl] at hdl
        simp only [List.length_nil] at hdl
        have hfin : p.fin = if p.b.lo = p.b.hi then ⟨p.b.lo, p.b.hi, p.b.rows, 1, 1⟩ else ⟨p.b.lo, p.b.hi, p.b.rows, max (max p.left p.right) ((diffV p.ends).length : Int), min p.b.most p.b.rows⟩ := rfl
        generalize diffV p.ends = dv at *
        repeat' (first
         | (with_reducible apply St.o; constructor) <;> intro _
         | with_reducible first | refine LenR_i fun _ => ?_ | refine And.intro (by omega) ?_ | (apply Sp.o; constructor) | refine mkl_own ?_ | refine frz0_i ?_
         | ((with_reducible apply Sc.o false; constructor); simp only [lP, seval, IdxR_parts, hpp, Int.toNat_natCast, List.length_map, List.mem_singleton, hml, fillE, List.length_cons, List.length_nil, vl_eq, vl_eq2]; refine ⟨_, h32, ?_⟩; rintro _ _ ⟨rfl, rfl⟩; simp only [lA, lP, ptrCells, ptrAdd, isNil, readsV, readsP, isCall, wrote, srcOf, seval, IdxR_parts, hpp, Int.toNat_natCast, List.length_map, List.mem_singleton, hml, fillE, List.length_cons, List.length_nil, vl_eq, vl_eq2])
         | with_reducible refine any_i [5] ?_
         | simp (maxSteps := 1000000) (disch := omega) only [lE, ptrCells, ptrAdd, isNil, readsV, readsP, isCall, wrote, srcOf, seval, IdxR_parts, hpp, Int.toNat_natCast, List.length_map, List.mem_singleton, hml, fillE, List.length_cons, List.length_nil, vl_eq, vl_eq2])
        all_goals try (exfalso; omega)
        · rename_i e
          have hf1 : p.fin = ⟨p.b.lo, p.b.hi, p.b.rows, 1, 1⟩ := by rw [hfin, if_pos e]
          exact back_i (i + 1) (by omega) (by omega) (Ent.to [0, 1, 2, 3, 7] false (by simp) (by simp) rfl (by simp only [lP, seval, hnx, hf1, List.length_append, List.length_cons, List.length_nil, List.map_append, List.map_cons, List.map_nil, pa_bars, pa_parts, bar_av, pa_agg] <;> (try simp) <;> (try omega)) (by simp only [lP, seval, hnx, hf1, List.length_append, List.length_cons, List.length_nil, List.map_append, List.map_cons, List.map_nil, pa_bars, pa_parts, bar_av, pa_agg] <;> (try simp) <;> (try omega)))
        · rename_i e
          have hf1 : p.fin = ⟨p.b.lo, p.b.hi, p.b.rows, (if (if (dv.length : Int) > p.right then (dv.length : Int) else p.right) > p.left then
                        if (dv.length : Int) > p.right then (dv.length : Int) else p.right
                      else p.left), (if p.b.rows < p.b.most then p.b.rows else p.b.most)⟩ := by
            rw [hfin, if_neg e]
            congr 1 <;> (repeat' split) <;> omega
          exact back_i (i + 1) (by omega) (by omega) (Ent.to [0, 1, 2, 3, 7] false (by simp) (by simp) rfl (by simp only [lP, seval, hnx, hf1, List.length_append, List.length_cons, List.length_nil, List.map_append, List.map_cons, List.map_nil, pa_bars, pa_parts, bar_av, pa_agg] <;> (try simp) <;> (try omega)) (by simp only [lP, seval, hnx, hf1, List.length_append, List.length_cons, List.length_nil, List.map_append, List.map_cons, List.map_nil, pa_bars, pa_parts, bar_av, pa_agg] <;> (try simp) <;> (try omega)))
      · have hie : i = M.length := by omega
        subst hie
        rw [List.take_length]
        repeat' (first
         | (with_reducible apply St.o; constructor) <;> intro _
         | with_reducible first | refine LenR_i fun _ => ?_ | refine And.intro (by omega) ?_ | (apply Sp.o; constructor) | refine mkl_own ?_ | refine frz0_i ?_
         | simp (maxSteps := 1000000) (disch := omega) only [lE, ptrCells, ptrAdd, isNil, readsV, readsP, isCall, wrote, srcOf, seval, Int.lt_irrefl, decide_false, List.length_map, ti33])
        refine keepH_i (l := M.map Part.fin) ?_ ⟨rfl, rfl⟩
        simp only [lP, seval, List.length_map, vw_bars]
        exact .refl _
theorem spine20 : ∀ fn, E.P.funcs[20]? = some fn → fn.body.map (Go.Al.spine 4) = some true := fun fn h => by
  have e := func20.symm.trans h
  injection e with e
  subst e
  rfl
theorem c20 (a b : Hist) (hx : ∀ x ∈ a.bars, BarOk x) (hy : ∀ x ∈ b.bars, BarOk x) (ha : 0 ≤ a.rows ∧ a.rows ≤ 16777216 ∧ 0 ≤ a.nulls ∧ a.nulls ≤ 16777216) (hb : 0 ≤ b.rows ∧ b.rows ≤ 16777216 ∧ 0 ≤ b.nulls ∧ b.nulls ≤ 16777216) (hla : a.bars.length ≤ 1024) (hlb : b.bars.length ≤ 1024) :
    ACalls E.P 20 [a.av, b.av] [] (fun r H => r = .tup [(mergeH mergeR a b).1.av, .int .i64 (mergeH mergeR a b).2] ∧ H = []) := by
  have hmax := maxLen_eq
  obtain ⟨ar, an, xs⟩ := a
  obtain ⟨br, bn, ys⟩ := b
  simp only at hx hy ha hb hla hlb
  have hkd := kd_eq xs ys
  have hno : kindsDiffer xs ys = true → mergeH mergeR ⟨ar, an, xs⟩ ⟨br, bn, ys⟩ = (h0, 7) := fun h => if_pos h
  have hlim : ¬ kindsDiffer xs ys = true → 16777216 < ar + br → mergeH mergeR ⟨ar, an, xs⟩ ⟨br, bn, ys⟩ = (h0, 2) := fun h h2 => by
    unfold mergeH
    rw [if_neg h, if_pos h2]
  have hok : ¬ kindsDiffer xs ys = true → ¬ 16777216 < ar + br → mergeH mergeR ⟨ar, an, xs⟩ ⟨br, bn, ys⟩ = (⟨ar + br, an + bn, mergeR xs ys⟩, 0) := fun h h2 => by
    unfold mergeH
    rw [if_neg h, if_neg h2]
  refine ok20.acallsF hE hm (by simp) 4 spine20 fun N hN => ?_
  have h5 := mergeRef N hN ar an br bn xs ys hx hy ha hb hla hlb
  have h2 : ¬ kindsDiffer xs ys = true → MF E.P 0 N 2 (tl (tl mc20)) (endQ E [.cell 4 33, .tmp 5] (keepQ 0 (fun r H => r = .tup [(mergeH mergeR ⟨ar, an, xs⟩ ⟨br, bn, ys⟩).1.av, .int .i64 (mergeH mergeR ⟨ar, an, xs⟩ ⟨br, bn, ys⟩).2] ∧ H = [])))
      ⟨[(2, .op 0 0), (3, .op 1 0), (4, .op 2 0), (5, .int .i64 0)], [.box (Hist.mk ar an xs).cs, .box (Hist.mk br bn ys).cs, .box [.int .i64 0, .int .i64 0, .raw (.slice none 0 0)]]⟩ := by
    intro hk
    have hw : IntKind.i64.wrap (ar + br) = ar + br := by rw [IntKind.wrap_i64]; omega
    refine mf_i ?_
    simp only [lA, ptrCells, ptrAdd, isNil, readsV, readsP, isCall, wrote, srcOf, seval]
    repeat' (first
     | (with_reducible apply St.o; constructor) <;> intro _
     | with_reducible first | refine LenR_i fun _ => ?_ | refine And.intro (by omega) ?_ | (apply Sp.o; constructor) | refine mkl_own ?_ | refine frz0_i ?_
     | simp (maxSteps := 1000000) (disch := omega) only [lE, ptrCells, ptrAdd, isNil, readsV, readsP, isCall, wrote, srcOf, seval, hw])
    · rename_i q
      rw [hw] at q
      refine mf_ret ?_
      simp only [lA, ptrCells, ptrAdd, isNil, readsV, readsP, isCall, wrote, srcOf, seval, ti33]
      rw [hlim hk q]
      exact keepH_i (l := []) weak_nil ⟨rfl, rfl⟩
    · rename_i q
      rw [hw] at q
      rw [hok hk q]
      refine mf_go ?_
      refine mf_i ?_
      simp only [lA, ptrCells, ptrAdd, isNil, readsV, readsP, isCall, wrote, srcOf, seval]
      repeat' (first
       | (with_reducible apply St.o; constructor) <;> intro _
       | with_reducible first | refine LenR_i fun _ => ?_ | refine And.intro (by omega) ?_ | (apply Sp.o; constructor) | refine mkl_own ?_ | refine frz0_i ?_
       | simp (maxSteps := 1000000) (disch := omega) only [lE, ptrCells, ptrAdd, isNil, readsV, readsP, isCall, wrote, srcOf, seval])
      exact mf_to (Ent.trans (Ent.weak 6 rfl (weak_nil (sz := 12))) (Ent.to [0, 1, 2] false (by simp) (by simp) rfl (by simp only [lP, seval] <;> (try simp) <;> (try omega)) (by simp only [lP, seval] <;> (try simp) <;> (try omega)))) h5
  refine mf_i ?_
  simp only [lA, ptrCells, ptrAdd, isNil, readsV, readsP, isCall, wrote, srcOf, seval, hist_av]
  repeat' (first
   | (with_reducible apply St.o; constructor) <;> intro _
   | with_reducible first | refine LenR_i fun _ => ?_ | refine And.intro (by omega) ?_ | (apply Sp.o; constructor) | refine mkl_own ?_ | refine frz0_i ?_
   | simp (maxSteps := 1000000) (disch := omega) only [lE, ptrCells, ptrAdd, isNil, readsV, readsP, isCall, wrote, srcOf, seval])
  refine mf_go ?_
  refine mf_i ?_
  simp only [lA, ptrCells, ptrAdd, isNil, readsV, readsP, isCall, wrote, srcOf, seval]
  repeat' (first
   | (with_reducible apply St.o; constructor) <;> intro _
   | with_reducible first | refine LenR_i fun _ => ?_ | refine And.intro (by omega) ?_ | (apply Sp.o; constructor) | refine mkl_own ?_ | refine frz0_i ?_ | refine any_i [] ?_
   | simp (maxSteps := 1000000) (disch := omega) only [lE, ptrCells, ptrAdd, isNil, readsV, readsP, isCall, wrote, srcOf, seval, IdxR_bars, Int.toNat_zero, List.length_map])
  · rename_i q1 q2 q3
    refine mf_ret ?_
    simp only [lA, ptrCells, ptrAdd, isNil, readsV, readsP, isCall, wrote, srcOf, seval, ti33]
    rw [hno (by rw [hkd]; simp only [Bool.and_eq_true, decide_eq_true_eq, Bool.not_eq_true', decide_eq_false_iff_not]; exact ⟨⟨by omega, by omega⟩, q3⟩)]
    exact keepH_i (l := []) weak_nil ⟨rfl, rfl⟩
  all_goals
    refine mf_to (Ent.to [0, 1, 2] false (by simp) (by simp) rfl (by simp only [lP, seval] <;> (try simp) <;> (try omega)) (by simp only [lP, seval] <;> (try simp) <;> (try omega))) (h2 ?_)
    rw [hkd]
    simp only [Bool.and_eq_true, decide_eq_true_eq, Bool.not_eq_true', decide_eq_false_iff_not]
    rintro ⟨⟨r1, r2⟩, r3⟩
    first | omega | exact r3 (by assumption)
end Go.Proofs.Try

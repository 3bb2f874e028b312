/-
  for every history and every order, the law HistoryIsWhole returns true
-/
import Derived.Test.YtmmedfdilaijhaaEauk
import Derived.Test.YtmmedfdilaijhaaPah
import Derived.Test.YtmmedfdilaijhaaReads
import Derived.Test.YtmmedfdilaijhaaRows
set_option linter.unusedSimpArgs false
set_option linter.unusedVariables false
namespace Go.Proofs.Try
open Go.Al
set_option maxRecDepth 100000
/-- alum/alumlaw30.HistoryIsWhole -/
def mc3 : MC :=
 (.seq (.ops [(none, (.v (.mov 4 (.c (.bool false)))))])
 (.seq (.seq (.ops [(none, (.v (.mov 26 (.t 0)))),
 (none, (.e (.call (some 27) 5 [(.t 26)]))),
 (none, (.v (.not 28 (.t 27)))),
 (none, (.v (.mov 29 (.t 28)))),
 ((some (29, false)), (.v (.mov 30 (.t 0)))),
 ((some (29, false)), (.e (.call (some 31) 6 [(.t 30)]))),
 ((some (29, false)), (.v (.not 32 (.t 31)))),
 (none, (.v (.pick 33 (.t 29) (.c (.bool true)) (.t 32)))),
 (none, (.v (.mov 34 (.t 33)))),
 ((some (34, false)), (.v (.mov 35 (.t 1)))),
 ((some (34, false)), (.p (.len 36 (.t 35)))),
 ((some (34, false)), (.v (.bin 37 .gtr false (.t 36) (.c (.int .i64 80))))),
 (none, (.v (.pick 38 (.t 34) (.c (.bool true)) (.t 37)))),
 (none, (.v (.mov 39 (.t 38)))),
 ((some (39, false)), (.v (.mov 40 (.t 0)))),
 ((some (39, false)), (.v (.mov 41 (.t 1)))),
 ((some (39, false)), (.e (.call (some 42) 7 [(.t 40), (.t 41)]))),
 ((some (39, false)), (.v (.bin 43 .neq false (.t 42) (.c (.int .i64 (-1)))))),
 (none, (.v (.pick 44 (.t 39) (.c (.bool true)) (.t 43))))])
 (.cond 44
 (.seq (.ops [(none, (.e (.call (some 45) 8 []))),
 (none, (.v (.mov 4 (.t 45))))])
 .ret)
 .skip))
 (.seq (.ops [(none, (.e (.mkmap 46))),
 (none, (.e (.mkmap 47))),
 (none, (.v (.mov 5 (.t 46)))),
 (none, (.v (.mov 6 (.t 47))))])
 (.seq (.seq (.ops [(none, (.v (.mov 48 (.t 1)))),
 (none, (.p (.len 49 (.t 48)))),
 (none, (.v (.mov 50 (.c (.int .i64 0)))))])
 (.block 0 (.loop (.seq (.ops [(none, (.v (.bin 51 .lss false (.t 50) (.t 49))))])
 (.seq (.cond 51
 .skip
 (.exit 0))
 (.seq (.block 1 (.seq (.ops [(none, (.v (.mov 52 (.t 50)))),
 (none, (.p (.idx 53 1 (.t 48) (.t 50)))),
 (none, (.v (.load 54 false 1 (.t 53)))),
 (none, (.v (.mov 7 (.t 52)))),
 (none, (.v (.mov 8 (.t 54))))])
 (.ops [(none, (.v (.mov 55 (.t 6)))),
 (none, (.v (.mov 56 (.t 8)))),
 (none, (.v (.mov 57 (.t 7)))),
 (none, (.v (.bin 58 .add false (.t 57) (.c (.int .i64 1))))),
 (none, (.e (.mput (.int .i64) (.t 55) (.t 56) (.t 58))))])))
 (.ops [(none, (.v (.bin 59 .add false (.t 50) (.c (.int .i64 1))))),
 (none, (.v (.mov 50 (.t 59))))])))))))
 (.seq (.seq (.ops [(none, (.v (.mov 60 (.t 0)))),
 (none, (.p (.len 61 (.t 60)))),
 (none, (.v (.mov 62 (.c (.int .i64 0)))))])
 (.block 2 (.loop (.seq (.ops [(none, (.v (.bin 63 .lss false (.t 62) (.t 61))))])
 (.seq (.cond 63
 .skip
 (.exit 2))
 (.seq (.block 3 (.seq (.ops [(none, (.p (.idx 64 5 (.t 60) (.t 62)))),
 (none, (.v (.load 65 true 5 (.t 64)))),
 (none, (.e (.alloc 10 [(.int .i64 0), (.int .i64 0), (.int .i64 0), (.raw (.slice none 0 0)), (.raw (.slice none 0 0))]))),
 (none, (.e (.store 5 true (.t 10) (.t 65))))])
 (.seq (.ops [(none, (.v (.fld 66 0 (.t 10)))),
 (none, (.v (.load 67 false 1 (.t 66))))])
 (.block 4 (.seq (.ops [(none, (.v (.bin 69 .eql false (.t 67) (.c (.int .i64 1))))),
 (none, (.v (.mov 68 (.t 69))))])
 (.cond 68
 (.ops [(none, (.v (.mov 70 (.t 5)))),
 (none, (.v (.fld 71 1 (.t 10)))),
 (none, (.v (.load 72 false 1 (.t 71)))),
 (none, (.v (.fld 73 3 (.t 10)))),
 (none, (.v (.load 74 false 1 (.t 73)))),
 (none, (.e (.mput (.int .i64) (.t 70) (.t 72) (.t 74))))])
 (.seq (.ops [(none, (.v (.bin 76 .eql false (.t 67) (.c (.int .i64 2))))),
 (none, (.v (.mov 75 (.t 76))))])
 (.cond 75
 (.seq (.ops [(none, (.v (.mov 77 (.t 6)))),
 (none, (.v (.fld 78 1 (.t 10)))),
 (none, (.v (.load 79 false 1 (.t 78)))),
 (none, (.p (.look 80 false (.int .i64) (.int .i64 0) (.t 77) (.t 79)))),
 (none, (.v (.fld 81 2 (.t 10)))),
 (none, (.v (.load 82 false 1 (.t 81)))),
 (none, (.v (.bin 83 .neq false (.t 80) (.t 82))))])
 (.cond 83
 (.seq (.ops [(none, (.v (.mov 4 (.c (.bool false)))))])
 .ret)
 .skip))
 (.seq (.ops [(none, (.v (.bin 85 .eql false (.t 67) (.c (.int .i64 3))))),
 (none, (.v (.mov 84 (.t 85))))])
 (.cond 84
 (.seq (.ops [(none, (.v (.mov 86 (.t 6)))),
 (none, (.v (.fld 87 1 (.t 10)))),
 (none, (.v (.load 88 false 1 (.t 87)))),
 (none, (.p (.look 89 false (.int .i64) (.int .i64 0) (.t 86) (.t 88)))),
 (none, (.v (.bin 90 .neq false (.t 89) (.c (.int .i64 0)))))])
 (.cond 90
 (.seq (.ops [(none, (.v (.mov 4 (.c (.bool false)))))])
 .ret)
 .skip))
 (.seq (.ops [(none, (.v (.bin 92 .eql false (.t 67) (.c (.int .i64 5))))),
 (none, (.v (.mov 91 (.t 92))))])
 (.cond 91
 (.seq (.ops [(none, (.e (.mkmap 93))),
 (none, (.v (.mov 11 (.t 93))))])
 (.seq (.seq (.ops [(none, (.v (.mov 94 (.t 5)))),
 (none, (.e (.rng 95 (.t 94))))])
 (.block 5 (.loop (.seq (.ops [(none, (.e (.nxt 96 (.t 95)))),
 (none, (.v (.ext 97 0 (.t 96))))])
 (.seq (.cond 97
 .skip
 (.exit 5))
 (.block 6 (.seq (.ops [(none, (.p (.ent 98 (.t 95)))),
 (none, (.v (.ext 99 0 (.t 98)))),
 (none, (.v (.ext 100 1 (.t 98)))),
 (none, (.v (.mov 12 (.t 99)))),
 (none, (.v (.mov 13 (.t 100))))])
 (.seq (.ops [(none, (.v (.mov 101 (.t 13)))),
 (none, (.p (.len 102 (.t 101)))),
 (none, (.v (.mov 103 (.c (.int .i64 0)))))])
 (.block 7 (.loop (.seq (.ops [(none, (.v (.bin 104 .lss false (.t 103) (.t 102))))])
 (.seq (.cond 104
 .skip
 (.exit 7))
 (.seq (.block 8 (.seq (.ops [(none, (.p (.idx 105 4 (.t 101) (.t 103)))),
 (none, (.v (.load 106 true 4 (.t 105)))),
 (none, (.e (.alloc 15 [(.int .i64 0), (.int .i64 0), (.bool false), (.raw (.slice none 0 0))]))),
 (none, (.e (.store 4 true (.t 15) (.t 106))))])
 (.seq (.ops [(none, (.v (.mov 107 (.t 6)))),
 (none, (.v (.mov 108 (.t 12)))),
 (none, (.p (.look 109 false (.int .i64) (.int .i64 0) (.t 107) (.t 108)))),
 (none, (.v (.mov 16 (.t 109))))])
 (.seq (.ops [(none, (.v (.mov 110 (.t 16)))),
 (none, (.v (.fld 111 2 (.t 10)))),
 (none, (.v (.load 112 false 1 (.t 111)))),
 (none, (.v (.bin 113 .leq false (.t 110) (.t 112))))])
 (.cond 113
 (.any true (.pure0 none (.v (.mov 114 (.t 11)))
 (.pure0 none (.v (.fld 115 0 (.t 15)))
 (.pure0 none (.v (.load 116 false 1 (.t 115)))
 (.pure0 none (.v (.fld 117 1 (.t 15)))
 (.pure0 none (.v (.load 118 false 1 (.t 117)))
 (.pure0 none (.v (.build 119 [(.int .i64 0), (.int .i64 0)] [(0, 1, (.t 116)), (1, 1, (.t 118))]))
 (.pure0 none (.v (.mov 120 (.t 11)))
 (.pure0 none (.v (.fld 121 0 (.t 15)))
 (.pure0 none (.v (.load 122 false 1 (.t 121)))
 (.pure0 none (.v (.fld 123 1 (.t 15)))
 (.pure0 none (.v (.load 124 false 1 (.t 123)))
 (.pure0 none (.v (.build 125 [(.int .i64 0), (.int .i64 0)] [(0, 1, (.t 122)), (1, 1, (.t 124))]))
 (.pure0 none (.v (.mov 127 (.t 16)))
 (.alt none (.p (.look 126 false (.wide [.int .i64, .int .i64]) (.int .i64 0) (.t 120) (.t 125)))
 (.pure1 none (.v (.max 128 [(.t 126), (.t 127)]))
 (.alt none (.e (.mput (.wide [.int .i64, .int .i64]) (.t 114) (.t 119) (.t 128)))
 .done
 .stop))
 .stop)))))))))))))))
 .skip)))))
 (.ops [(none, (.v (.bin 129 .add false (.t 103) (.c (.int .i64 1))))),
 (none, (.v (.mov 103 (.t 129))))]))))))))))))))
 (.seq (.ops [(none, (.e (.mkmap 130))),
 (none, (.v (.mov 17 (.t 130))))])
 (.seq (.seq (.ops [(none, (.v (.fld 131 4 (.t 10)))),
 (none, (.v (.load 132 false 1 (.t 131)))),
 (none, (.p (.len 133 (.t 132)))),
 (none, (.v (.mov 134 (.c (.int .i64 0)))))])
 (.block 9 (.loop (.seq (.ops [(none, (.v (.bin 135 .lss false (.t 134) (.t 133))))])
 (.seq (.cond 135
 .skip
 (.exit 9))
 (.seq (.block 10 (.seq (.ops [(none, (.p (.idx 136 4 (.t 132) (.t 134)))),
 (none, (.v (.load 137 true 4 (.t 136)))),
 (none, (.e (.alloc 19 [(.int .i64 0), (.int .i64 0), (.int .i64 0), (.raw (.slice none 0 0))]))),
 (none, (.e (.store 4 true (.t 19) (.t 137))))])
 (.seq (.ops [(none, (.v (.mov 138 (.t 17)))),
 (none, (.v (.fld 139 0 (.t 19)))),
 (none, (.v (.load 140 false 1 (.t 139)))),
 (none, (.v (.fld 141 1 (.t 19)))),
 (none, (.v (.load 142 false 1 (.t 141)))),
 (none, (.v (.build 143 [(.int .i64 0), (.int .i64 0)] [(0, 1, (.t 140)), (1, 1, (.t 142))]))),
 (none, (.v (.fld 144 2 (.t 19)))),
 (none, (.v (.load 145 false 1 (.t 144)))),
 (none, (.e (.mput (.wide [.int .i64, .int .i64]) (.t 138) (.t 143) (.t 145))))])
 (.seq (.any false (.pure0 none (.v (.mov 146 (.t 11)))
 (.pure0 none (.v (.fld 147 0 (.t 19)))
 (.pure0 none (.v (.load 148 false 1 (.t 147)))
 (.pure0 none (.v (.fld 149 1 (.t 19)))
 (.pure0 none (.v (.load 150 false 1 (.t 149)))
 (.pure0 none (.v (.build 151 [(.int .i64 0), (.int .i64 0)] [(0, 1, (.t 148)), (1, 1, (.t 150))]))
 (.pure0 none (.p (.look 152 false (.wide [.int .i64, .int .i64]) (.int .i64 0) (.t 146) (.t 151)))
 (.pure0 none (.v (.fld 153 2 (.t 19)))
 (.pure0 none (.v (.load 154 false 1 (.t 153)))
 (.pure0 none (.v (.bin 155 .neq false (.t 152) (.t 154)))
 .done)))))))))))
 (.cond 155
 (.seq (.ops [(none, (.v (.mov 4 (.c (.bool false)))))])
 .ret)
 .skip)))))
 (.ops [(none, (.v (.bin 156 .add false (.t 134) (.c (.int .i64 1))))),
 (none, (.v (.mov 134 (.t 156))))])))))))
 (.seq (.ops [(none, (.v (.mov 157 (.t 5)))),
 (none, (.e (.rng 158 (.t 157))))])
 (.block 11 (.loop (.seq (.ops [(none, (.e (.nxt 159 (.t 158)))),
 (none, (.v (.ext 160 0 (.t 159))))])
 (.seq (.cond 160
 .skip
 (.exit 11))
 (.block 12 (.seq (.ops [(none, (.p (.ent 161 (.t 158)))),
 (none, (.v (.ext 162 0 (.t 161)))),
 (none, (.v (.ext 163 1 (.t 161)))),
 (none, (.v (.mov 20 (.t 162)))),
 (none, (.v (.mov 21 (.t 163))))])
 (.seq (.ops [(none, (.v (.mov 164 (.t 21)))),
 (none, (.p (.len 165 (.t 164)))),
 (none, (.v (.mov 166 (.c (.int .i64 0)))))])
 (.block 13 (.loop (.seq (.ops [(none, (.v (.bin 167 .lss false (.t 166) (.t 165))))])
 (.seq (.cond 167
 .skip
 (.exit 13))
 (.seq (.block 14 (.seq (.ops [(none, (.p (.idx 168 4 (.t 164) (.t 166)))),
 (none, (.v (.load 169 true 4 (.t 168)))),
 (none, (.e (.alloc 23 [(.int .i64 0), (.int .i64 0), (.bool false), (.raw (.slice none 0 0))]))),
 (none, (.e (.store 4 true (.t 23) (.t 169))))])
 (.seq (.ops [(none, (.v (.mov 170 (.t 6)))),
 (none, (.v (.mov 171 (.t 20)))),
 (none, (.p (.look 172 false (.int .i64) (.int .i64 0) (.t 170) (.t 171)))),
 (none, (.v (.mov 24 (.t 172))))])
 (.seq (.ops [(none, (.v (.fld 173 0 (.t 23)))),
 (none, (.v (.load 174 false 1 (.t 173)))),
 (none, (.v (.fld 175 1 (.t 23)))),
 (none, (.v (.load 176 false 1 (.t 175)))),
 (none, (.v (.build 177 [(.int .i64 0), (.int .i64 0)] [(0, 1, (.t 174)), (1, 1, (.t 176))]))),
 (none, (.e (.alloc 25 [(.int .i64 0), (.int .i64 0)]))),
 (none, (.e (.store 2 true (.t 25) (.t 177))))])
 (.seq (.any false (.pure0 none (.v (.mov 178 (.t 24)))
 (.pure0 none (.v (.bin 179 .gtr false (.t 178) (.c (.int .i64 0))))
 (.pure0 none (.v (.mov 180 (.t 179)))
 (.pure0 (some (180, true)) (.v (.mov 181 (.t 24)))
 (.pure0 (some (180, true)) (.v (.mov 182 (.t 11)))
 (.pure0 (some (180, true)) (.v (.load 183 true 2 (.t 25)))
 (.pure0 (some (180, true)) (.p (.look 184 false (.wide [.int .i64, .int .i64]) (.int .i64 0) (.t 182) (.t 183)))
 (.pure0 (some (180, true)) (.v (.bin 185 .eql false (.t 181) (.t 184)))
 (.pure0 none (.v (.pick 186 (.t 180) (.t 185) (.c (.bool false))))
 (.pure0 none (.v (.mov 187 (.t 186)))
 (.pure0 (some (187, true)) (.v (.mov 188 (.t 17)))
 (.pure0 (some (187, true)) (.v (.load 189 true 2 (.t 25)))
 (.pure0 (some (187, true)) (.p (.look 190 false (.wide [.int .i64, .int .i64]) (.int .i64 0) (.t 188) (.t 189)))
 (.pure0 (some (187, true)) (.v (.mov 191 (.t 24)))
 (.pure0 (some (187, true)) (.v (.bin 192 .eql false (.t 190) (.t 191)))
 (.pure0 (some (187, true)) (.v (.fld 193 2 (.t 23)))
 (.pure0 (some (187, true)) (.v (.load 194 false 1 (.t 193)))
 (.pure0 (some (187, true)) (.v (.bin 195 .eql true (.t 192) (.t 194)))
 (.pure0 none (.v (.pick 196 (.t 187) (.t 195) (.c (.bool false))))
 .done))))))))))))))))))))
 (.cond 196
 (.seq (.ops [(none, (.v (.mov 4 (.c (.bool false)))))])
 .ret)
 .skip))))))
 (.ops [(none, (.v (.bin 197 .add false (.t 166) (.c (.int .i64 1))))),
 (none, (.v (.mov 166 (.t 197))))]))))))))))))))))))
 .skip))))))))))))
 (.ops [(none, (.v (.bin 198 .add false (.t 62) (.c (.int .i64 1))))),
 (none, (.v (.mov 62 (.t 198))))])))))))
 (.seq (.ops [(none, (.e (.call (some 199) 8 []))),
 (none, (.v (.mov 4 (.t 199))))])
 .ret))))))
theorem ok3 : FnOk E 3 200 [.tmp 4] mc3 := .of func3 (by kernel_rfl) (by kernel_rfl) (by kernel_rfl) (by kernel_rfl) (by kernel_rfl)
end Go.Proofs.Try
namespace Go.Proofs.Try
open Go.Al
set_option linter.unusedVariables false
set_option linter.unusedSimpArgs false
set_option maxRecDepth 20000
set_option maxHeartbeats 16000000

def wrV (ws : List Wr) : AV := .view 4 (ws.map Wr.av)
theorem kW_nil : kW ([] : List ((Int × Int) × Int)) = [] := rfl
theorem vW_nil : vW (AV.int .i64) [] = [] := rfl
theorem thL_nil : thL [] [] = [] := rfl
theorem kM_nil : kM ([] : List (Int × List Wr)) = [] := rfl
theorem vM_nil : vM wrV [] = [] := rfl
theorem pa_vWr {H : List AObj} {l : List Nat} {bor : Bool} {n : Nat} (m : List (Int × List Wr)) : (vM wrV m).map (pa H l bor (n + 1)) = vM wrV m := by
  unfold vM
  rw [List.map_map]
  exact List.map_congr_left fun p _ => by simp [wrV, pa_view]
theorem pa_vWI {H : List AObj} {l : List Nat} {bor : Bool} {n : Nat} (m : List ((Int × Int) × Int)) : (vW (AV.int .i64) m).map (pa H l bor (n + 1)) = vW (AV.int .i64) m := by
  unfold vW
  rw [List.map_map]
  exact List.map_congr_left fun p _ => by simp [pa_int]
theorem fit_h {st : Int} {y : Hd} (h : okH st y = true) : fitP y.key := by
  simp only [okH, Bool.not_eq_true', Bool.or_eq_false_iff, decide_eq_false_iff_not, Bool.not_eq_false', numb, Bool.and_eq_true, decide_eq_true_eq] at h
  constructor
  · simp [Lit.wf, IntKind.min, IntKind.max, IntKind.signed, IntKind.bits]; omega
  · simp [Lit.wf, IntKind.min, IntKind.max, IntKind.signed, IntKind.bits]; omega
theorem look_fw {order : List Int} (ho : onceB order = true) {tx : Int} (hz : tx ≠ 0) : ∃ b, Al.look (.int .i64) (.int .i64 0) (kM (fwM order)) (vM (AV.int .i64) (fwM order)) (.int .i64 tx) = some (.int .i64 (placeH order tx), b) := by
  rw [look_m, ← fwM_all ho hz]
  cases getM (fwM order) tx with
  | none => exact ⟨false, rfl⟩
  | some v => exact ⟨true, rfl⟩
theorem look_wI {m : List ((Int × Int) × Int)} (hm : ∀ p ∈ m, fitP p.1) {r : Int × Int} (hr : fitP r) : ∃ b, Al.look WK (.int .i64 0) (kW m) (vW (AV.int .i64) m) (.agg [.int .i64 r.1, .int .i64 r.2]) = some (.int .i64 ((getW m r).getD 0), b) := by
  have := look_w (AV.int .i64) (.int .i64 0) hm hr
  rw [kp] at this
  rw [this]
  cases getW m r with
  | none => exact ⟨false, rfl⟩
  | some v => exact ⟨true, rfl⟩
theorem rep_tx {h : List Hap} (hr : rightB h = true) {i : Nat} (hi : i < h.length) (hk : (h.getD i default).k = 2 ∨ (h.getD i default).k = 3) : (h.getD i default).tx ≠ 0 := by
  have hev := right_at hr hi
  rw [eventOk_eq, Bool.and_eq_true] at hev
  have ho : isOpen (h.take i) (h.getD i default).tx = true := by
    rcases hk with hk | hk
    · have := hev.2
      simp only [evB, hk, show ¬ (2 : Int) = 1 by decide, if_false, if_true, Bool.and_eq_true] at this
      exact this.1
    · have := hev.2
      simp only [evB, hk, show ¬ (3 : Int) = 1 by decide, show ¬ (3 : Int) = 2 by decide, if_false, if_true] at this
      exact this
  have h1 := open_asked ho
  intro e
  rw [e] at h1
  have := no_zero (right_take hr i)
  rcases asked_lt (h.take i) 0 with ⟨q, _⟩ | ⟨n, q, _, q3⟩
  · omega
  · rw [this] at q3; cases q3
theorem pairs_snoc (W : List (Int × List Wr)) (is : List Nat) (i : Nat) : pairsW W (is ++ [i]) = pairsW W is ++ (W.getD i default).2.map fun w => ((W.getD i default).1, w) := by
  unfold pairsW
  rw [List.flatMap_append]
  simp only [List.flatMap_cons, List.flatMap_nil, List.append_nil]
theorem mem_getM {α : Type} {m : List (Int × α)} (hn : (keysM m).Nodup) {p : Int × α} (h : p ∈ m) : getM m p.1 = some p.2 := by
  induction m with
  | nil => simp at h
  | cons q m ih =>
    simp only [keysM, List.map_cons, List.nodup_cons] at hn
    rw [getM_cons]
    rcases List.mem_cons.1 h with h | h
    · rw [h, if_pos rfl]
    · have : ¬ q.1 = p.1 := fun e => hn.1 (e ▸ List.mem_map.2 ⟨p, h, rfl⟩)
      rw [if_neg this]; exact ih hn.2 h
theorem pairs_all {W : List (Int × List Wr)} {is : List Nat} (hn : (keysM W).Nodup) (h2 : ∀ i ∈ is, i < W.length) (h3 : ∀ i, i < W.length → i ∈ is) (d : Int × Wr) : d ∈ pairsW W is ↔ ∃ l, getM W d.1 = some l ∧ d.2 ∈ l := by
  unfold pairsW
  rw [List.mem_flatMap]
  constructor
  · rintro ⟨i, hi, hd⟩
    obtain ⟨w, hw, rfl⟩ := List.mem_map.1 hd
    exact ⟨_, mem_getM hn (getD_mem (h2 i hi)), hw⟩
  · rintro ⟨l, hl, hd⟩
    obtain ⟨i, hi, e⟩ := List.getElem_of_mem (getM_mem hl)
    refine ⟨i, h3 i hi, List.mem_map.2 ⟨d.2, ?_, ?_⟩⟩
    · rw [List.getD_eq_getElem?_getD, List.getElem?_eq_getElem hi, Option.getD_some, e]; exact hd
    · rw [List.getD_eq_getElem?_getD, List.getElem?_eq_getElem hi, Option.getD_some, e]
theorem keys_nz {h : List Hap} (hr : rightB h = true) {i : Nat} {W : List (Int × List Wr)} (hW : WrOk (h.take i) W) {q : Int × List Wr} (hq : q ∈ W) : q.1 ≠ 0 := by
  intro e
  have h1 := mem_getM hW.nodup hq
  rw [hW.get, e, no_zero (right_take hr i)] at h1
  cases h1
theorem c3 (h : List Hap) (order : List Int) : ACalls E.P 3 [.view 5 (h.map Hap.av), .view 1 (order.map (AV.int .i64))] [] (fun r H => r = .bool true ∧ H = []) := by
  have hmax := maxLen_eq
  have h5 := c5 h
  have h6 := c6 h
  have h8 := c8
  refine ok3.acalls hE hm (by simp) fun N hN => ?_
  unfold mc3
  simp only [lA, ptrCells, ptrAdd, isNil, readsV, readsP, isCall, wrote, srcOf, seval]
  by_cases hf : fewB h = true
  rotate_left
  · replace hf : fewB h = false := by simpa using hf
    rw [hf] at h5
    repeat' (first
     | (with_reducible apply St.o; constructor) <;> intro _
     | with_reducible first | refine LenR_i fun _ => ?_ | refine And.intro (by omega) ?_ | (apply Sp.o; constructor) | refine mkl_own ?_ | refine frz0_i ?_
     | ((with_reducible apply Sc.o true; constructor); simp only [lP, seval]; (first | refine ⟨_, h5, ?_⟩ | refine ⟨_, h8, ?_⟩); rintro _ _ ⟨rfl, rfl⟩; simp only [lA, lP, ptrCells, ptrAdd, isNil, readsV, readsP, isCall, wrote, srcOf, seval])
     | simp (maxSteps := 1000000) (disch := omega) only [lE, ptrCells, ptrAdd, isNil, readsV, readsP, isCall, wrote, srcOf, seval])
    all_goals exact keep0_i ⟨rfl, rfl⟩
  rw [hf] at h5
  by_cases hr : rightB h = true
  rotate_left
  · replace hr : rightB h = false := by simpa using hr
    rw [hr] at h6
    repeat' (first
     | (with_reducible apply St.o; constructor) <;> intro _
     | with_reducible first | refine LenR_i fun _ => ?_ | refine And.intro (by omega) ?_ | (apply Sp.o; constructor) | refine mkl_own ?_ | refine frz0_i ?_
     | ((with_reducible apply Sc.o true; constructor); simp only [lP, seval]; (first | refine ⟨_, h5, ?_⟩ | refine ⟨_, h6, ?_⟩ | refine ⟨_, h8, ?_⟩); rintro _ _ ⟨rfl, rfl⟩; simp only [lA, lP, ptrCells, ptrAdd, isNil, readsV, readsP, isCall, wrote, srcOf, seval])
     | simp (maxSteps := 1000000) (disch := omega) only [lE, ptrCells, ptrAdd, isNil, readsV, readsP, isCall, wrote, srcOf, seval])
    all_goals exact keep0_i ⟨rfl, rfl⟩
  rw [hr] at h6
  by_cases ho : 80 < (order.length : Int)
  · repeat' (first
     | (with_reducible apply St.o; constructor) <;> intro _
     | with_reducible first | refine LenR_i fun _ => ?_ | refine And.intro (by omega) ?_ | (apply Sp.o; constructor) | refine mkl_own ?_ | refine frz0_i ?_
     | ((with_reducible apply Sc.o true; constructor); simp only [lP, seval, ho, decide_true]; (first | refine ⟨_, h5, ?_⟩ | refine ⟨_, h6, ?_⟩ | refine ⟨_, h8, ?_⟩); rintro _ _ ⟨rfl, rfl⟩; simp only [lA, lP, ptrCells, ptrAdd, isNil, readsV, readsP, isCall, wrote, srcOf, seval, ho, decide_true])
     | simp (maxSteps := 1000000) (disch := omega) only [lE, ptrCells, ptrAdd, isNil, readsV, readsP, isCall, wrote, srcOf, seval, ho, decide_true])
    all_goals first
      | (exfalso; omega)
      | exact keep0_i ⟨rfl, rfl⟩
  have h7 := c7 h hr order (by omega)
  by_cases hc : checkH h order = -1
  rotate_left
  · repeat' (first
     | (with_reducible apply St.o; constructor) <;> intro _
     | with_reducible first | refine LenR_i fun _ => ?_ | refine And.intro (by omega) ?_ | (apply Sp.o; constructor) | refine mkl_own ?_ | refine frz0_i ?_
     | ((with_reducible apply Sc.o true; constructor); simp only [lP, seval, ho, decide_true, decide_false]; (first | refine ⟨_, h5, ?_⟩ | refine ⟨_, h6, ?_⟩ | refine ⟨_, h7, ?_⟩ | refine ⟨_, h8, ?_⟩); rintro _ _ ⟨rfl, rfl⟩; simp only [lA, lP, ptrCells, ptrAdd, isNil, readsV, readsP, isCall, wrote, srcOf, seval, ho, decide_true, decide_false])
     | simp (maxSteps := 1000000) (disch := omega) only [lE, ptrCells, ptrAdd, isNil, readsV, readsP, isCall, wrote, srcOf, seval, ho, decide_true, decide_false])
    all_goals first
      | (exfalso; omega)
      | exact keep0_i ⟨rfl, rfl⟩
  rw [hc] at h7
  obtain ⟨hb, he⟩ := check_ok.1 hc
  have honce : onceB order = true := by
    unfold endOk at he
    rw [Bool.and_eq_true, Bool.and_eq_true] at he
    exact he.1.2
  have hl4 := rightB_len hr
  repeat' (first
   | (with_reducible apply St.o; constructor) <;> intro _
   | with_reducible first | refine LenR_i fun _ => ?_ | refine And.intro (by omega) ?_ | (apply Sp.o; constructor) | refine mkl_own ?_ | refine frz0_i ?_
   | ((with_reducible apply Sc.o true; constructor); simp only [lP, seval, ho, decide_true, decide_false]; (first | refine ⟨_, h5, ?_⟩ | refine ⟨_, h6, ?_⟩ | refine ⟨_, h7, ?_⟩); rintro _ _ ⟨rfl, rfl⟩; simp only [lA, lP, ptrCells, ptrAdd, isNil, readsV, readsP, isCall, wrote, srcOf, seval, ho, decide_true, decide_false])
   | simp (maxSteps := 1000000) (disch := omega) only [lE, ptrCells, ptrAdd, isNil, readsV, readsP, isCall, wrote, srcOf, seval, ho, decide_true, decide_false])
  all_goals try (exfalso; omega)
  refine loop_i (fun p : Nat × List Nat × Nat => p.1 ≤ order.length)
    (fun p => ⟨[(0, .view 5 (h.map Hap.av)), (5, .mp 0), (6, .mp 1), (48, .view 1 (order.map (AV.int .i64))), (49, .int .i64 order.length), (50, .int .i64 p.1)], [.map [] [] [] 0, .map (kM (fwM (order.take p.1))) (vM (AV.int .i64) (fwM (order.take p.1))) p.2.1 p.2.2]⟩) (fun p => order.length - p.1) (0, [], 0) (by simp)
    (Ent.to [0, 1] false (by simp) (by simp) rfl (by simp only [lP, seval, List.take_zero, fwM, List.zipIdx_nil, List.foldl_nil, kM, vM, List.map_nil, List.length_map] <;> (try simp) <;> (try omega)) (by simp only [lP, seval, List.take_zero, fwM, List.zipIdx_nil, List.foldl_nil, kM, vM, List.map_nil, List.length_map] <;> (try simp) <;> (try omega))) ?_
  rintro ⟨j, bs2, c2⟩ hj
  simp only at hj ⊢
  by_cases hjl : j < order.length
  · have hnx := fwM_next hjl
    obtain ⟨b3, c3, hput⟩ := put_m (AV.int .i64) (fwM (order.take j)) bs2 c2 (order.getD j 0) ((j : Int) + 1)
    rw [← hnx] at hput
    have hg2 : order.getD j default = order.getD j 0 := rfl
    generalize hg3 : order.getD j 0 = t at *
    generalize hF : fwM (order.take j) = F at *
    generalize hF' : fwM (order.take (j + 1)) = F' at *
    repeat' (first
     | (with_reducible apply St.o; constructor) <;> intro _
     | with_reducible first | refine LenR_i fun _ => ?_ | refine And.intro (by omega) ?_ | (apply Sp.o; constructor) | refine mkl_own ?_ | refine frz0_i ?_
     | simp (maxSteps := 1000000) (disch := omega) only [lE, ptrCells, ptrAdd, isNil, readsV, readsP, isCall, wrote, srcOf, seval, IdxR_int, hg2, hg3, hput, Int.toNat_natCast, List.length_map])
    all_goals try (exfalso; omega)
    exact back_i (j + 1, b3, c3) (by simp only; omega) (by simp only; omega) (Ent.to [0, 1] false (by simp) (by simp) rfl (by simp only [lP, seval, hF', pa_kM, pa_vI] <;> (try simp) <;> (try omega)) (by simp only [lP, seval, hF', pa_kM, pa_vI] <;> (try simp) <;> (try omega)))
  have hje : j = order.length := by omega
  subst hje
  rw [List.take_length]
  repeat' (first
   | (with_reducible apply St.o; constructor) <;> intro _
   | with_reducible first | refine LenR_i fun _ => ?_ | refine And.intro (by omega) ?_ | (apply Sp.o; constructor) | refine mkl_own ?_ | refine frz0_i ?_
   | simp (maxSteps := 1000000) (disch := omega) only [lE, ptrCells, ptrAdd, isNil, readsV, readsP, isCall, wrote, srcOf, seval, List.length_map, Int.lt_irrefl, decide_false])
  refine loop_i (fun p : Nat × List (Int × List Wr) × List Nat × Nat => p.1 ≤ h.length ∧ WrOk (h.take p.1) p.2.1 ∧ WfM p.2.1.length p.2.2.1 p.2.2.2 ∧ ∀ q ∈ p.2.1, q.2.length ≤ 64 ∧ ∀ w ∈ q.2, okW w = true)
    (fun p => ⟨[(0, .view 5 (h.map Hap.av)), (5, .mp 0), (6, .mp 1), (60, .view 5 (h.map Hap.av)), (61, .int .i64 h.length), (62, .int .i64 p.1)], [.map (kM p.2.1) (vM wrV p.2.1) p.2.2.1 p.2.2.2, .map (kM (fwM order)) (vM (AV.int .i64) (fwM order)) bs2 c2]⟩) (fun p => h.length - p.1) (0, [], [], 0)
    ⟨by simp, wrOk_nil, ⟨rfl, .nil, by simp⟩, by simp⟩ (Ent.to [0, 1] false (by simp) (by simp) rfl (by simp only [lP, seval, kM_nil, vM_nil, pa_kM, pa_vI, List.length_map] <;> (try simp) <;> (try omega)) (by simp only [lP, seval, kM_nil, vM_nil, pa_kM, pa_vI, List.length_map] <;> (try simp) <;> (try omega))) ?_
  rintro ⟨i, W, bs, c⟩ ⟨hi, hW, hw, hWk⟩
  simp only at hi hW hw hWk ⊢
  by_cases hil : i < h.length
  · have htk := take_succD hil
    have hbi := hb i hil
    have hev := right_at hr hil
    have hlk := fun hz => look_fw honce (tx := (h.getD i default).tx) hz
    have hrep := rep_tx hr hil
    have hask := fun hk => right_ws hr hil hk
    rw [eventOk_eq, Bool.and_eq_true] at hev
    generalize hx : h.getD i default = x at *
    have hcase : x.k = 1 ∨ x.k = 2 ∨ x.k = 3 ∨ x.k = 5 ∨ (¬ x.k = 1 ∧ ¬ x.k = 2 ∧ ¬ x.k = 3 ∧ ¬ x.k = 5) := by omega
    rcases hcase with hk | hk | hk | hk | ⟨k1, k2, k3, k5⟩
    · have h2 := hev.2
      simp only [evB, hk, if_true, Bool.and_eq_true, decide_eq_true_eq] at h2
      have hnone : (h.take i).findIdx? (isAsk x.tx) = none := by
        rcases asked_lt (h.take i) x.tx with ⟨_, q⟩ | ⟨n, q, _⟩
        · exact q
        · omega
      obtain ⟨b4, c4, hput, hw4⟩ := wf_put wrV hw x.tx x.ws
      simp only [wrV] at hput
      repeat' (first
       | (with_reducible apply St.o; constructor) <;> intro _
       | with_reducible first | refine LenR_i fun _ => ?_ | refine And.intro (by omega) ?_ | (apply Sp.o; constructor) | refine mkl_own ?_ | refine frz0_i ?_
       | simp (maxSteps := 1000000) (disch := omega) only [lE, ptrCells, ptrAdd, isNil, readsV, readsP, isCall, wrote, srcOf, seval, IdxR_haps, hx, hk, hput, Int.toNat_natCast, List.length_map, fillE, List.length_cons, List.length_nil])
      all_goals try (exfalso; omega)
      refine back_i (i + 1, setM W x.tx x.ws, b4, c4) ⟨by simp only; omega, by simp only; rw [htk]; exact hW.ask hk hnone, hw4, fun q hq => ?_⟩ (by simp only; omega) (Ent.to [0, 1] false (by simp) (by simp) rfl (by simp only [lP, seval, pa_kM, pa_vI, pa_vWr] <;> (try simp) <;> (try omega)) (by simp only [lP, seval, pa_kM, pa_vI, pa_vWr] <;> (try simp) <;> (try omega)))
      rcases mem_setM hq with rfl | hq
      · have h3 := h2.2.2
        unfold writesOk at h3
        simp only [Bool.and_eq_true, decide_eq_true_eq] at h3
        exact ⟨h3.2.2, h3.1.1⟩
      · exact hWk q hq
    · obtain ⟨b4, hlk⟩ := hlk (hrep (.inl hk))
      have h2 := hev.2
      simp only [evB, hk, show ¬ (2 : Int) = 1 by decide, if_false, if_true, numb, Bool.and_eq_true, decide_eq_true_eq] at h2
      have hpl : placeH order x.tx = x.st := by
        unfold badAt at hbi
        rw [hx] at hbi
        simp only at hbi
        rw [if_neg (by omega), if_pos hk, Bool.or_eq_false_iff] at hbi
        obtain ⟨q1, q2⟩ := hbi
        simp only [Bool.not_eq_false', decide_eq_true_eq, decide_eq_false_iff_not] at q1 q2
        have := place_at honce (p := (x.st - 1).toNat) (by omega) (by rw [q2]; exact hrep (.inl hk))
        rw [q2] at this
        omega
      rw [hpl] at hlk
      repeat' (first
       | (with_reducible apply St.o; constructor) <;> intro _
       | with_reducible first | refine LenR_i fun _ => ?_ | refine And.intro (by omega) ?_ | (apply Sp.o; constructor) | refine mkl_own ?_ | refine frz0_i ?_
       | simp (maxSteps := 1000000) (disch := omega) only [lE, ptrCells, ptrAdd, isNil, readsV, readsP, isCall, wrote, srcOf, seval, IdxR_haps, hx, hk, hlk, Int.toNat_natCast, List.length_map, fillE, List.length_cons, List.length_nil])
      all_goals try (exfalso; omega)
      exact back_i (i + 1, W, bs, c) ⟨by simp only; omega, by simp only; rw [htk]; exact hW.other (by omega), hw, hWk⟩ (by simp only; omega) (Ent.to [0, 1] false (by simp) (by simp) rfl (by simp only [lP, seval, pa_kM, pa_vI, pa_vWr] <;> (try simp) <;> (try omega)) (by simp only [lP, seval, pa_kM, pa_vI, pa_vWr] <;> (try simp) <;> (try omega)))
    · obtain ⟨b4, hlk⟩ := hlk (hrep (.inr hk))
      have hpl : placeH order x.tx = 0 := by
        unfold badAt at hbi
        rw [hx] at hbi
        simp only at hbi
        rw [if_neg (by omega), if_neg (by omega), if_pos hk, decide_eq_false_iff_not] at hbi
        have := placeH_pos order x.tx
        omega
      rw [hpl] at hlk
      repeat' (first
       | (with_reducible apply St.o; constructor) <;> intro _
       | with_reducible first | refine LenR_i fun _ => ?_ | refine And.intro (by omega) ?_ | (apply Sp.o; constructor) | refine mkl_own ?_ | refine frz0_i ?_
       | simp (maxSteps := 1000000) (disch := omega) only [lE, ptrCells, ptrAdd, isNil, readsV, readsP, isCall, wrote, srcOf, seval, IdxR_haps, hx, hk, hlk, Int.toNat_natCast, List.length_map, fillE, List.length_cons, List.length_nil])
      all_goals try (exfalso; omega)
      exact back_i (i + 1, W, bs, c) ⟨by simp only; omega, by simp only; rw [htk]; exact hW.other (by omega), hw, hWk⟩ (by simp only; omega) (Ent.to [0, 1] false (by simp) (by simp) rfl (by simp only [lP, seval, pa_kM, pa_vI, pa_vWr] <;> (try simp) <;> (try omega)) (by simp only [lP, seval, pa_kM, pa_vI, pa_vWr] <;> (try simp) <;> (try omega)))
    · have hxk : (h.getD i default).k = 5 := by rw [hx]; exact hk
      repeat' (first
       | (with_reducible apply St.o; constructor) <;> intro _
       | with_reducible first | refine LenR_i fun _ => ?_ | refine And.intro (by omega) ?_ | (apply Sp.o; constructor) | refine mkl_own ?_ | refine frz0_i ?_
       | simp (maxSteps := 1000000) (disch := omega) only [lE, ptrCells, ptrAdd, isNil, readsV, readsP, isCall, wrote, srcOf, seval, IdxR_haps, hx, hk, Int.toNat_natCast, List.length_map, fillE, List.length_cons, List.length_nil])
      all_goals try (exfalso; omega)
      have hin : ∀ i j, i < W.length → j < W.length → bs.getD i 0 = bs.getD j 0 → i = j := fun i j hi hj e => by
        rw [← hw.len] at hi hj
        rw [List.getD_eq_getElem?_getD, List.getD_eq_getElem?_getD, List.getElem?_eq_getElem hi, List.getElem?_eq_getElem hj] at e
        exact nodup_inj hw.nodup e
      refine loop_i (fun p : List Nat × List ((Int × Int) × Int) × List Nat × Nat => p.1.Nodup ∧ (∀ k ∈ p.1, k < W.length) ∧ LastD order x.st (pairsW W p.1) p.2.1 ∧ ∀ q ∈ p.2.1, fitP q.1)
        (fun p => ⟨[(0, .view 5 (h.map Hap.av)), (5, .mp 0), (6, .mp 1), (10, .op 2 0), (11, .mp 3), (60, .view 5 (h.map Hap.av)), (61, .int .i64 h.length), (62, .int .i64 i), (95, .itr 4)], [.map (kM W) (vM wrV W) bs c, .map (kM (fwM order)) (vM (AV.int .i64) (fwM order)) bs2 c2, .box [.int .i64 5, .int .i64 x.tx, .int .i64 x.st, .view 4 (x.ws.map Wr.av), .view 4 (x.rs.map Hd.av)], .map (kW p.2.1) (vW (AV.int .i64) p.2.1) p.2.2.1 p.2.2.2, .mit (some 0) c (p.1.map fun k => bs.getD k 0) c]⟩) (fun p => W.length - p.1.length) ([], [], [], 0)
        ⟨.nil, by simp, lastD_nil _ _, by simp⟩ (Ent.to [0, 1, 2, 3, 4] false (by simp) (by simp) rfl (by simp only [lP, seval, po_mit, pa_itr, kW_nil, vW_nil, pa_kM, pa_vI, pa_vWr, List.map_nil] <;> (try simp) <;> (try omega)) (by simp only [lP, seval, po_mit, pa_itr, kW_nil, vW_nil, pa_kM, pa_vI, pa_vWr, List.map_nil] <;> (try simp) <;> (try omega))) ?_
      rintro ⟨is, lm, b5, c5⟩ ⟨hn1, hlt, hL, hfl⟩
      simp only at hn1 hlt hL hfl ⊢
      repeat' (first
       | (with_reducible apply St.o; constructor) <;> intro _
       | with_reducible first | refine LenR_i fun _ => ?_ | refine And.intro (by omega) ?_ | (apply Sp.o; constructor) | refine mkl_own ?_ | refine frz0_i ?_
       | simp (maxSteps := 1000000) (disch := omega) only [lE, ptrCells, ptrAdd, isNil, readsV, readsP, isCall, wrote, srcOf, seval])
      refine nxt_i hw.lt (Nat.le_refl _) (fun hall => ?_) (fun i' b' kx vx hb' hns hkx hvx => ?_)
      · have hD := pairs_all hW.nodup hlt fun k hk => by
          have hib : bs.getD k 0 ∈ bs := by
            rw [List.getD_eq_getElem?_getD, List.getElem?_eq_getElem (by rw [hw.len]; exact hk), Option.getD_some]
            exact List.getElem_mem _
          obtain ⟨j, hj, e⟩ := List.mem_map.1 (hall _ hib)
          rw [hin j k (hlt j hj) hk e] at hj
          exact hj
        have hF1 := fun r => whole_1 (r := r) hr hc hil hxk hW hD (by rw [hx]; exact hL)
        have hF2 := fun tx l hl w => whole_2 (tx := tx) (l := l) (w := w) hr hc hil hxk hW hD (by rw [hx]; exact hL) hl
        rw [hx] at hF1 hF2
        repeat' (first
         | (with_reducible apply St.o; constructor) <;> intro _
         | with_reducible first | refine LenR_i fun _ => ?_ | refine And.intro (by omega) ?_ | (apply Sp.o; constructor) | refine mkl_own ?_ | refine frz0_i ?_
         | simp (maxSteps := 1000000) (disch := omega) only [lE, ptrCells, ptrAdd, isNil, readsV, readsP, isCall, wrote, srcOf, seval])
        have hasc : x.rs.Pairwise Hd.before := by
          have := (see_facts hr hc hil hxk).1
          rw [hx] at this
          rw [this]
          exact (sameR h order _).asc
        have hrok : ∀ r ∈ x.rs, okH x.st r = true := by
          have := hev.2
          simp only [evB, hk, show ¬ (5 : Int) = 1 by decide, show ¬ (5 : Int) = 2 by decide, show ¬ (5 : Int) = 3 by decide, if_false, if_true, Bool.and_eq_true, rowsOk, decide_eq_true_eq] at this
          exact this.2.2.1
        refine loop_i (fun p : Nat × List Nat × Nat => p.1 ≤ x.rs.length ∧ ∀ q ∈ thL (x.rs.take p.1) [], fitP q.1)
          (fun p => ⟨[(0, .view 5 (h.map Hap.av)), (5, .mp 0), (6, .mp 1), (10, .op 2 0), (11, .mp 3), (60, .view 5 (h.map Hap.av)), (61, .int .i64 h.length), (62, .int .i64 i), (17, .mp 4), (132, .view 4 (x.rs.map Hd.av)), (133, .int .i64 x.rs.length), (134, .int .i64 p.1)], [.map (kM W) (vM wrV W) bs c, .map (kM (fwM order)) (vM (AV.int .i64) (fwM order)) bs2 c2, .box [.int .i64 5, .int .i64 x.tx, .int .i64 x.st, .view 4 (x.ws.map Wr.av), .view 4 (x.rs.map Hd.av)], .map (kW lm) (vW (AV.int .i64) lm) b5 c5, .map (kW (thL (x.rs.take p.1) [])) (vW (AV.int .i64) (thL (x.rs.take p.1) [])) p.2.1 p.2.2]⟩) (fun p => x.rs.length - p.1) (0, [], 0)
          ⟨by simp, by simp [thL]⟩ (Ent.to [0, 1, 2, 3, 5] false (by simp) (by simp) rfl (by simp only [lP, seval, List.take_zero, thL_nil, kW_nil, vW_nil, pa_kM, pa_vI, pa_vWr, pa_kW, pa_vWI, List.length_map] <;> (try simp) <;> (try omega)) (by simp only [lP, seval, List.take_zero, thL_nil, kW_nil, vW_nil, pa_kM, pa_vI, pa_vWr, pa_kW, pa_vWI, List.length_map] <;> (try simp) <;> (try omega))) ?_
        rintro ⟨j, b6, c6⟩ ⟨hj, hfj⟩
        simp only at hj hfj ⊢
        by_cases hjl : j < x.rs.length
        · have hrm := getD_mem hjl
          have hfit := fit_h (hrok _ hrm)
          have hF := hF1 _ hrm
          obtain ⟨bl, hlast⟩ := look_wI hfl hfit
          rw [hF] at hlast
          obtain ⟨b7, c7, hput⟩ := put_w (AV.int .i64) hfj b6 c6 hfit (x.rs.getD j default).st
          have hnt := thL_next hjl
          have hfn := fit_setW (v := (x.rs.getD j default).st) hfj hfit
          rw [← hnt] at hput hfn
          generalize hg : x.rs.getD j default = r at *
          simp only [kp, Hd.key] at hput hlast
          generalize hT' : thL (x.rs.take (j + 1)) [] = T' at *
          generalize hT : thL (x.rs.take j) [] = T at *
          repeat' (first
           | (with_reducible apply St.o; constructor) <;> intro _
           | with_reducible first | refine LenR_i fun _ => ?_ | refine And.intro (by omega) ?_ | (apply Sp.o; constructor) | refine mkl_own ?_ | refine frz0_i ?_ | refine any_i [] ?_
           | simp (maxSteps := 1000000) (disch := omega) only [lE, ptrCells, ptrAdd, isNil, readsV, readsP, isCall, wrote, srcOf, seval, IdxR_hds, hg, hlast, hput, Int.toNat_natCast, List.length_map, fillE, List.length_cons, List.length_nil])
          all_goals try (exfalso; omega)
          exact back_i (j + 1, b7, c7) ⟨by simp only; omega, by simp only [hT']; exact hfn⟩ (by simp only; omega) (Ent.to [0, 1, 2, 3, 4] false (by simp) (by simp) rfl (by simp only [lP, seval, hT', pa_kM, pa_vI, pa_vWr, pa_kW, pa_vWI] <;> (try simp) <;> (try omega)) (by simp only [lP, seval, hT', pa_kM, pa_vI, pa_vWr, pa_kW, pa_vWI] <;> (try simp) <;> (try omega)))
        · have hje : j = x.rs.length := by omega
          subst hje
          rw [List.take_length] at hfj ⊢
          repeat' (first
           | (with_reducible apply St.o; constructor) <;> intro _
           | with_reducible first | refine LenR_i fun _ => ?_ | refine And.intro (by omega) ?_ | (apply Sp.o; constructor) | refine mkl_own ?_ | refine frz0_i ?_
           | simp (maxSteps := 1000000) (disch := omega) only [lE, ptrCells, ptrAdd, isNil, readsV, readsP, isCall, wrote, srcOf, seval, List.length_map, Int.lt_irrefl, decide_false])
          generalize thL x.rs [] = T at *
          clear hn1 hlt hL hall hD
          refine loop_i (fun p : List Nat => p.Nodup ∧ (∀ k ∈ p, k < W.length))
            (fun p => ⟨[(0, .view 5 (h.map Hap.av)), (5, .mp 0), (6, .mp 1), (10, .op 2 0), (11, .mp 3), (60, .view 5 (h.map Hap.av)), (61, .int .i64 h.length), (62, .int .i64 i), (17, .mp 4), (158, .itr 5)], [.map (kM W) (vM wrV W) bs c, .map (kM (fwM order)) (vM (AV.int .i64) (fwM order)) bs2 c2, .box [.int .i64 5, .int .i64 x.tx, .int .i64 x.st, .view 4 (x.ws.map Wr.av), .view 4 (x.rs.map Hd.av)], .map (kW lm) (vW (AV.int .i64) lm) b5 c5, .map (kW T) (vW (AV.int .i64) T) b6 c6, .mit (some 0) c (p.map fun k => bs.getD k 0) c]⟩) (fun p => W.length - p.length) []
            ⟨.nil, by simp⟩ (Ent.to [0, 1, 2, 3, 4, 5] false (by simp) (by simp) rfl (by simp only [lP, seval, po_mit, pa_itr, pa_kM, pa_vI, pa_vWr, pa_kW, pa_vWI, List.map_nil] <;> (try simp) <;> (try omega)) (by simp only [lP, seval, po_mit, pa_itr, pa_kM, pa_vI, pa_vWr, pa_kW, pa_vWI, List.map_nil] <;> (try simp) <;> (try omega))) ?_
          rintro is ⟨hn1, hlt⟩
          repeat' (first
           | (with_reducible apply St.o; constructor) <;> intro _
           | with_reducible first | refine LenR_i fun _ => ?_ | refine And.intro (by omega) ?_ | (apply Sp.o; constructor) | refine mkl_own ?_ | refine frz0_i ?_
           | simp (maxSteps := 1000000) (disch := omega) only [lE, ptrCells, ptrAdd, isNil, readsV, readsP, isCall, wrote, srcOf, seval])
          refine nxt_i hw.lt (Nat.le_refl _) (fun hall => ?_) (fun i' b' kx vx hb' hns hkx hvx => ?_)
          · repeat' (first
             | (with_reducible apply St.o; constructor) <;> intro _
             | with_reducible first | refine LenR_i fun _ => ?_ | refine And.intro (by omega) ?_ | (apply Sp.o; constructor) | refine mkl_own ?_ | refine frz0_i ?_
             | simp (maxSteps := 1000000) (disch := omega) only [lE, ptrCells, ptrAdd, isNil, readsV, readsP, isCall, wrote, srcOf, seval])
            exact back_i (i + 1, W, bs, c) ⟨by simp only; omega, by simp only; rw [htk]; exact hW.other (by omega), hw, hWk⟩ (by simp only; omega) (Ent.to [0, 1] false (by simp) (by simp) rfl (by simp only [lP, seval, pa_kM, pa_vI, pa_vWr] <;> (try simp) <;> (try omega)) (by simp only [lP, seval, pa_kM, pa_vI, pa_vWr] <;> (try simp) <;> (try omega)))
          · obtain ⟨hi2, e0⟩ := List.getElem?_eq_some_iff.1 hb'
            rw [hw.len] at hi2
            have hbi2 : bs.getD i' 0 = b' := by rw [List.getD_eq_getElem?_getD, hb']; rfl
            have hni : i' ∉ is := fun h => hns (by rw [← hbi2]; exact List.mem_map.2 ⟨i', h, rfl⟩)
            have hmi : W[i']? = some (W.getD i' default) := by rw [List.getElem?_eq_getElem hi2, List.getD_eq_getElem?_getD, List.getElem?_eq_getElem hi2, Option.getD_some]
            have hkx2 : kx = .int .i64 (W.getD i' default).1 := by
              rw [kM, List.getElem?_map, hmi] at hkx
              cases hkx; rfl
            have hvx2 : vx = wrV (W.getD i' default).2 := by
              rw [vM, List.getElem?_map, hmi] at hvx
              cases hvx; rfl
            subst hkx2 hvx2
            have hqm := getD_mem hi2
            have hqz := keys_nz hr hW hqm
            have hqg := mem_getM hW.nodup hqm
            obtain ⟨hq64, hqok⟩ := hWk _ hqm
            obtain ⟨bq, hlkq⟩ := look_fw honce hqz
            generalize hq : W.getD i' default = q at *
            obtain ⟨tx, l⟩ := q
            simp only at hlkq hqz hq64 hqok hqg
            have hF3 := hF2 tx l hqg
            have hn2 : (is ++ [i']).Nodup := List.nodup_append.2 ⟨hn1, by simp, fun a ha b hb e => by
              rw [List.mem_singleton.1 hb] at e
              exact hni (e ▸ ha)⟩
            have hlt2 : ∀ j ∈ is ++ [i'], j < W.length := fun j hj => by
              rcases List.mem_append.1 hj with hj | hj
              · exact hlt j hj
              · rw [List.mem_singleton.1 hj]; exact hi2
            have hle : (is ++ [i']).length ≤ W.length := by
              have := nodup_len (B := List.range W.length) hn2 fun j hj => List.mem_range.2 (hlt2 j hj)
              rwa [List.length_range] at this
            simp only [List.length_append, List.length_cons, List.length_nil] at hle
            simp only [lA, ptrCells, ptrAdd, isNil, readsV, readsP, isCall, wrote, srcOf, seval]
            repeat' (first
             | (with_reducible apply St.o; constructor) <;> intro _
             | with_reducible first | refine LenR_i fun _ => ?_ | refine And.intro (by omega) ?_ | (apply Sp.o; constructor) | refine mkl_own ?_ | refine frz0_i ?_
             | simp (maxSteps := 1000000) (disch := omega) only [lE, ptrCells, ptrAdd, isNil, readsV, readsP, isCall, wrote, srcOf, seval])
            refine ent_i i' b' rfl hb' hkx hvx ?_
            simp only [lA, ptrCells, ptrAdd, isNil, readsV, readsP, isCall, wrote, srcOf, seval, wrV]
            repeat' (first
             | (with_reducible apply St.o; constructor) <;> intro _
             | with_reducible first | refine LenR_i fun _ => ?_ | refine And.intro (by omega) ?_ | (apply Sp.o; constructor) | refine mkl_own ?_ | refine frz0_i ?_
             | simp (maxSteps := 1000000) (disch := omega) only [lE, ptrCells, ptrAdd, isNil, readsV, readsP, isCall, wrote, srcOf, seval, List.length_map])
            refine loop_i (fun j : Nat => j ≤ l.length)
              (fun j => ⟨[(0, .view 5 (h.map Hap.av)), (5, .mp 0), (6, .mp 1), (10, .op 2 0), (11, .mp 3), (60, .view 5 (h.map Hap.av)), (61, .int .i64 h.length), (62, .int .i64 i), (17, .mp 4), (158, .itr 5), (20, .int .i64 tx), (164, .view 4 (l.map Wr.av)), (165, .int .i64 l.length), (166, .int .i64 j)], [.map (kM W) (vM wrV W) bs c, .map (kM (fwM order)) (vM (AV.int .i64) (fwM order)) bs2 c2, .box [.int .i64 5, .int .i64 x.tx, .int .i64 x.st, .view 4 (x.ws.map Wr.av), .view 4 (x.rs.map Hd.av)], .map (kW lm) (vW (AV.int .i64) lm) b5 c5, .map (kW T) (vW (AV.int .i64) T) b6 c6, .mit (some 0) c ((is ++ [i']).map fun k => bs.getD k 0) c]⟩) (fun j => l.length - j) 0
              (by omega) (Ent.to [0, 1, 2, 3, 4, 5] false (by simp) (by simp) rfl (by simp only [lP, seval, po_mit, pa_itr, pa_kM, pa_vI, pa_vWr, pa_kW, pa_vWI, List.map_append, List.map_cons, List.map_nil, hbi2, List.length_map] <;> (try simp) <;> (try omega)) (by simp only [lP, seval, po_mit, pa_itr, pa_kM, pa_vI, pa_vWr, pa_kW, pa_vWI, List.map_append, List.map_cons, List.map_nil, hbi2, List.length_map] <;> (try simp) <;> (try omega))) ?_
            intro j hj
            by_cases hjl : j < l.length
            · have hwm := getD_mem hjl
              have hfit := fit_w (hqok _ hwm)
              have hF4 := hF3 _ hwm
              obtain ⟨bl, hlast⟩ := look_wI hfl hfit
              obtain ⟨bt, hthere⟩ := look_wI hfj hfit
              generalize hg : l.getD j default = w at *
              simp only [Wr.key] at hF4
              generalize placeH order tx = n at *
              generalize (getW lm (w.t, w.r)).getD 0 = v at *
              generalize (getW T (w.t, w.r)).getD 0 = u at *
              repeat' (first
               | (with_reducible apply St.o; constructor) <;> intro _
               | with_reducible first | refine LenR_i fun _ => ?_ | refine And.intro (by omega) ?_ | (apply Sp.o; constructor) | refine mkl_own ?_ | refine frz0_i ?_ | refine any_i [] ?_
               | simp (maxSteps := 1000000) (disch := omega) only [lE, ptrCells, ptrAdd, isNil, readsV, readsP, isCall, wrote, srcOf, seval, IdxR_wrs, hg, hlkq, hlast, hthere, Int.toNat_natCast, List.length_map, fillE, List.length_cons, List.length_nil])
              all_goals try (exfalso; omega)
              all_goals try exact back_i (j + 1) (by omega) (by omega) (Ent.to [0, 1, 2, 3, 4, 5] false (by simp) (by simp) rfl (by simp only [lP, seval, po_mit, pa_itr, pa_kM, pa_vI, pa_vWr, pa_kW, pa_vWI] <;> (try simp) <;> (try omega)) (by simp only [lP, seval, po_mit, pa_itr, pa_kM, pa_vI, pa_vWr, pa_kW, pa_vWI] <;> (try simp) <;> (try omega)))
              rename_i g1 g2 g3
              exfalso
              have g4 := hF4 g1 g2
              rw [g4] at g3
              revert g3
              cases w.dead <;> simp
            · have hje : j = l.length := by omega
              subst hje
              repeat' (first
               | (with_reducible apply St.o; constructor) <;> intro _
               | with_reducible first | refine LenR_i fun _ => ?_ | refine And.intro (by omega) ?_ | (apply Sp.o; constructor) | refine mkl_own ?_ | refine frz0_i ?_
               | simp (maxSteps := 1000000) (disch := omega) only [lE, ptrCells, ptrAdd, isNil, readsV, readsP, isCall, wrote, srcOf, seval, List.length_map, Int.lt_irrefl, decide_false])
              exact back_i (is ++ [i']) ⟨hn2, hlt2⟩ (by simp only [List.length_append, List.length_cons, List.length_nil]; omega) (Ent.to [0, 1, 2, 3, 4, 5] false (by simp) (by simp) rfl (by simp only [lP, seval, po_mit, pa_itr, pa_kM, pa_vI, pa_vWr, pa_kW, pa_vWI] <;> (try simp) <;> (try omega)) (by simp only [lP, seval, po_mit, pa_itr, pa_kM, pa_vI, pa_vWr, pa_kW, pa_vWI] <;> (try simp) <;> (try omega)))
      · obtain ⟨hi2, e0⟩ := List.getElem?_eq_some_iff.1 hb'
        rw [hw.len] at hi2
        have hbi2 : bs.getD i' 0 = b' := by rw [List.getD_eq_getElem?_getD, hb']; rfl
        have hni : i' ∉ is := fun h => hns (by rw [← hbi2]; exact List.mem_map.2 ⟨i', h, rfl⟩)
        have hmi : W[i']? = some (W.getD i' default) := by rw [List.getElem?_eq_getElem hi2, List.getD_eq_getElem?_getD, List.getElem?_eq_getElem hi2, Option.getD_some]
        have hkx2 : kx = .int .i64 (W.getD i' default).1 := by
          rw [kM, List.getElem?_map, hmi] at hkx
          cases hkx; rfl
        have hvx2 : vx = wrV (W.getD i' default).2 := by
          rw [vM, List.getElem?_map, hmi] at hvx
          cases hvx; rfl
        subst hkx2 hvx2
        have hsn := pairs_snoc W is i'
        have hqm := getD_mem hi2
        have hqz := keys_nz hr hW hqm
        obtain ⟨hq64, hqok⟩ := hWk _ hqm
        obtain ⟨bq, hlkq⟩ := look_fw honce hqz
        generalize hq : W.getD i' default = q at *
        obtain ⟨tx, l⟩ := q
        simp only at hlkq hqz hq64 hqok hsn
        have hn2 : (is ++ [i']).Nodup := List.nodup_append.2 ⟨hn1, by simp, fun a ha b hb e => by
          rw [List.mem_singleton.1 hb] at e
          exact hni (e ▸ ha)⟩
        have hlt2 : ∀ j ∈ is ++ [i'], j < W.length := fun j hj => by
          rcases List.mem_append.1 hj with hj | hj
          · exact hlt j hj
          · rw [List.mem_singleton.1 hj]; exact hi2
        have hle : (is ++ [i']).length ≤ W.length := by
          have := nodup_len (B := List.range W.length) hn2 fun j hj => List.mem_range.2 (hlt2 j hj)
          rwa [List.length_range] at this
        simp only [List.length_append, List.length_cons, List.length_nil] at hle
        simp only [lA, ptrCells, ptrAdd, isNil, readsV, readsP, isCall, wrote, srcOf, seval]
        repeat' (first
         | (with_reducible apply St.o; constructor) <;> intro _
         | with_reducible first | refine LenR_i fun _ => ?_ | refine And.intro (by omega) ?_ | (apply Sp.o; constructor) | refine mkl_own ?_ | refine frz0_i ?_
         | simp (maxSteps := 1000000) (disch := omega) only [lE, ptrCells, ptrAdd, isNil, readsV, readsP, isCall, wrote, srcOf, seval])
        refine ent_i i' b' rfl hb' hkx hvx ?_
        simp only [lA, ptrCells, ptrAdd, isNil, readsV, readsP, isCall, wrote, srcOf, seval, wrV]
        repeat' (first
         | (with_reducible apply St.o; constructor) <;> intro _
         | with_reducible first | refine LenR_i fun _ => ?_ | refine And.intro (by omega) ?_ | (apply Sp.o; constructor) | refine mkl_own ?_ | refine frz0_i ?_
         | simp (maxSteps := 1000000) (disch := omega) only [lE, ptrCells, ptrAdd, isNil, readsV, readsP, isCall, wrote, srcOf, seval, List.length_map])
        refine loop_i (fun p : Nat × List ((Int × Int) × Int) × List Nat × Nat => p.1 ≤ l.length ∧ LastD order x.st (pairsW W is ++ (l.take p.1).map fun w => (tx, w)) p.2.1 ∧ ∀ q ∈ p.2.1, fitP q.1)
          (fun p => ⟨[(0, .view 5 (h.map Hap.av)), (5, .mp 0), (6, .mp 1), (10, .op 2 0), (11, .mp 3), (60, .view 5 (h.map Hap.av)), (61, .int .i64 h.length), (62, .int .i64 i), (95, .itr 4), (12, .int .i64 tx), (101, .view 4 (l.map Wr.av)), (102, .int .i64 l.length), (103, .int .i64 p.1)], [.map (kM W) (vM wrV W) bs c, .map (kM (fwM order)) (vM (AV.int .i64) (fwM order)) bs2 c2, .box [.int .i64 5, .int .i64 x.tx, .int .i64 x.st, .view 4 (x.ws.map Wr.av), .view 4 (x.rs.map Hd.av)], .map (kW p.2.1) (vW (AV.int .i64) p.2.1) p.2.2.1 p.2.2.2, .mit (some 0) c ((is ++ [i']).map fun k => bs.getD k 0) c]⟩) (fun p => l.length - p.1) (0, lm, b5, c5)
          ⟨by simp, by simpa using hL, hfl⟩ (Ent.to [0, 1, 2, 3, 4] false (by simp) (by simp) rfl (by simp only [lP, seval, po_mit, pa_itr, pa_kM, pa_vI, pa_vWr, pa_kW, pa_vWI, List.map_append, List.map_cons, List.map_nil, hbi2, List.length_map] <;> (try simp) <;> (try omega)) (by simp only [lP, seval, po_mit, pa_itr, pa_kM, pa_vI, pa_vWr, pa_kW, pa_vWI, List.map_append, List.map_cons, List.map_nil, hbi2, List.length_map] <;> (try simp) <;> (try omega))) ?_
        rintro ⟨j, lm2, b6, c6⟩ ⟨hj, hL2, hfl2⟩
        simp only at hj hL2 hfl2 ⊢
        by_cases hjl : j < l.length
        · have hok := hqok _ (getD_mem hjl)
          have hfit := fit_w hok
          obtain ⟨bl, hlast⟩ := look_wI hfl2 hfit
          have hD2 : pairsW W is ++ (l.take (j + 1)).map (fun w => (tx, w)) = (pairsW W is ++ (l.take j).map fun w => (tx, w)) ++ [(tx, l.getD j default)] := by
            rw [take_succD hjl, List.map_append, List.append_assoc]; rfl
          have hpos := placeH_pos order tx
          have hput0 := hL2.put (tx, l.getD j default)
          have hskip0 := hL2.skip (tx, l.getD j default)
          rw [← hD2] at hput0 hskip0
          generalize hg : l.getD j default = w at *
          simp only [Wr.key] at hput0 hskip0
          generalize placeH order tx = n at *
          generalize hv : (getW lm2 (w.t, w.r)).getD 0 = v at *
          obtain ⟨b7, c7, hput⟩ := put_w (AV.int .i64) hfl2 b6 c6 hfit (max v n)
          simp only [kp] at hput
          have hmx : (if n > v then n else v) = max v n := by split <;> omega
          repeat' (first
           | (with_reducible apply St.o; constructor) <;> intro _
           | with_reducible first | refine LenR_i fun _ => ?_ | refine And.intro (by omega) ?_ | (apply Sp.o; constructor) | refine mkl_own ?_ | refine frz0_i ?_
           | with_reducible refine any_i [3] ?_
           | simp (maxSteps := 1000000) (disch := omega) only [lE, ptrCells, ptrAdd, isNil, readsV, readsP, isCall, wrote, srcOf, seval, IdxR_wrs, hg, hlkq, hlast, hmx, hput, List.mem_singleton, Int.toNat_natCast, List.length_map, fillE, List.length_cons, List.length_nil])
          all_goals try (exfalso; omega)
          · rename_i hnst
            refine back_i (j + 1, setW lm2 (w.t, w.r) (max v n), b7, c7) ⟨by simp only; omega, hput0 hnst, fit_setW hfl2 hfit⟩ (by simp only; omega) (Ent.to [0, 1, 2, 3, 4] false (by simp) (by simp) rfl (by simp only [lP, seval, po_mit, pa_itr, pa_kM, pa_vI, pa_vWr, pa_kW, pa_vWI] <;> (try simp) <;> (try omega)) (by simp only [lP, seval, po_mit, pa_itr, pa_kM, pa_vI, pa_vWr, pa_kW, pa_vWI] <;> (try simp) <;> (try omega)))
          · rename_i hnst
            refine back_i (j + 1, lm2, b6, c6) ⟨by simp only; omega, hskip0 hnst, hfl2⟩ (by simp only; omega) (Ent.to [0, 1, 2, 3, 4] false (by simp) (by simp) rfl (by simp only [lP, seval, po_mit, pa_itr, pa_kM, pa_vI, pa_vWr, pa_kW, pa_vWI] <;> (try simp) <;> (try omega)) (by simp only [lP, seval, po_mit, pa_itr, pa_kM, pa_vI, pa_vWr, pa_kW, pa_vWI] <;> (try simp) <;> (try omega)))
        · have hje : j = l.length := by omega
          subst hje
          rw [List.take_length] at hL2
          rw [← hsn] at hL2
          repeat' (first
           | (with_reducible apply St.o; constructor) <;> intro _
           | with_reducible first | refine LenR_i fun _ => ?_ | refine And.intro (by omega) ?_ | (apply Sp.o; constructor) | refine mkl_own ?_ | refine frz0_i ?_
           | simp (maxSteps := 1000000) (disch := omega) only [lE, ptrCells, ptrAdd, isNil, readsV, readsP, isCall, wrote, srcOf, seval, List.length_map, Int.lt_irrefl, decide_false])
          exact back_i (is ++ [i'], lm2, b6, c6) ⟨hn2, hlt2, hL2, hfl2⟩ (by simp only [List.length_append, List.length_cons, List.length_nil]; omega) (Ent.to [0, 1, 2, 3, 4] false (by simp) (by simp) rfl (by simp only [lP, seval, po_mit, pa_itr, pa_kM, pa_vI, pa_vWr, pa_kW, pa_vWI] <;> (try simp) <;> (try omega)) (by simp only [lP, seval, po_mit, pa_itr, pa_kM, pa_vI, pa_vWr, pa_kW, pa_vWI] <;> (try simp) <;> (try omega)))
    · have hne : x.k ≠ 1 := k1
      repeat' (first
       | (with_reducible apply St.o; constructor) <;> intro _
       | with_reducible first | refine LenR_i fun _ => ?_ | refine And.intro (by omega) ?_ | (apply Sp.o; constructor) | refine mkl_own ?_ | refine frz0_i ?_
       | simp (maxSteps := 1000000) (disch := omega) only [lE, ptrCells, ptrAdd, isNil, readsV, readsP, isCall, wrote, srcOf, seval, IdxR_haps, hx, Int.toNat_natCast, List.length_map, fillE, List.length_cons, List.length_nil])
      all_goals try (exfalso; omega)
      exact back_i (i + 1, W, bs, c) ⟨by simp only; omega, by simp only; rw [htk]; exact hW.other hne, hw, hWk⟩ (by simp only; omega) (Ent.to [0, 1] false (by simp) (by simp) rfl (by simp only [lP, seval, pa_kM, pa_vI, pa_vWr] <;> (try simp) <;> (try omega)) (by simp only [lP, seval, pa_kM, pa_vI, pa_vWr] <;> (try simp) <;> (try omega)))
  · have hie : i = h.length := by omega
    subst hie
    repeat' (first
     | (with_reducible apply St.o; constructor) <;> intro _
     | with_reducible first | refine LenR_i fun _ => ?_ | refine And.intro (by omega) ?_ | (apply Sp.o; constructor) | refine mkl_own ?_ | refine frz0_i ?_
     | ((with_reducible apply Sc.o true; constructor); simp only [lP, seval, List.length_map, Int.lt_irrefl, decide_false]; refine ⟨_, h8, ?_⟩; rintro _ _ ⟨rfl, rfl⟩; simp only [lA, lP, ptrCells, ptrAdd, isNil, readsV, readsP, isCall, wrote, srcOf, seval, List.length_map, Int.lt_irrefl, decide_false])
     | simp (maxSteps := 1000000) (disch := omega) only [lE, ptrCells, ptrAdd, isNil, readsV, readsP, isCall, wrote, srcOf, seval, List.length_map, Int.lt_irrefl, decide_false])
    all_goals exact keep0_i ⟨rfl, rfl⟩
end Go.Proofs.Try


namespace Go.Proofs.Ytmmedfdilaijhaa
open Go.Al Go.Proofs.Try
open Go.ChangeShapes Go.WideShapes Go.ChangeAt Go.RowKit
set_option linter.unusedVariables false
set_option maxRecDepth 100000 in
theorem lifted3 (os : Os) (started : os.Started) (H : Type) (enc : TypeId × Value → H) :
    ReturnsInHanded {} Try.checked os 3 .any (Rows.historyIsWholeSpec.pre6 enc Try.prog Try.f3 Rows.historyIsWholeRow.domain false) (Rows.historyIsWholeSpec.post enc Try.prog Try.f3 false true false false) := by
  refine returnsInHanded_of_change (C := Try.checked) own started (by kernel_rfl) Try.func3
    (ChangeSpec.witness6 (enc := enc) (C := Try.checked) false ⟨#[], #[.slice none 0 0, .slice none 0 0], []⟩ 8 (by kernel_rfl) (by kernel_rfl) (by kernel_rfl) (by kernel_rfl)) ?_
  intro W base args ds gs before hval hW _ _
  exact contract_of hE kids full (s := Rows.historyIsWholeSpec) (tb := 4) (by rw [Try.params3]; decide +kernel) (by rw [Try.params3]; exact reads_cons rv22 (reads_cons rv23 (reads_nil))) (by rintro _ ⟨a, _, ha, ⟨b, _, hb, rfl, rfl⟩, rfl⟩; exact c3 a b) rfl
    (by rw [Try.params3]; rintro H (_ | ⟨d0, (_ | ⟨d1, (_ | ⟨dz, ds⟩)⟩)⟩) hl <;> simp at hl; exact ⟨rfl, rfl, rfl⟩) (by kernel_rfl) (by kernel_rfl) H enc W base args ds gs before (glob_ok _) hval hW
theorem historyIsWhole_holds : Rows.HistoryIsWholeSaid :=
  OpenClaim.holds_of_wide 3 Try.f3 rfl rfl rfl rfl rfl rfl rfl ⟨rfl, rfl, rfl, rfl, rfl⟩ rfl rfl rfl rfl rfl (by kernel_rfl) Try.func3 (by kernel_rfl)
    (of_decide_eq_true (by kernel_rfl)) (by unfold Func.isWrapper; first | (rw [if_pos (by decide +kernel)]; kernel_rfl) | (rw [if_neg (by decide +kernel)]; exact ⟨rfl, rfl⟩))
    (fun os started H enc _ => lifted3 os started H enc)
end Go.Proofs.Ytmmedfdilaijhaa

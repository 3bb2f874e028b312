/-
  A part of the proof: see the text of the law.
-/
import Derived.Test.YtmmedfdilaijhaaGreatEay
set_option linter.unusedSimpArgs false
set_option linter.unusedVariables false
namespace Go.Proofs.Try
open Go.Proofs.Tryz
open Go.Al
set_option maxRecDepth 100000
def mc10 : MC :=
(.seq (.ops [(none,.v (.mov 4 (.c (.int .i64 0))))])
(.seq (.ops [(none,.v (.mov 20 (.t 0))),
(none,.e (.call (some 21) 31 [(.t 20)])),
(none,.e (.mkmap 22)),
(none,.e (.alloc 5 [(.raw (.map none))])),
(none,.e (.alloc 6 [(.raw (.map none))])),
(none,.e (.store 1 false (.t 5) (.t 21))),
(none,.e (.store 1 false (.t 6) (.t 22)))])
(.seq (.ops [(none,.e (.alloc 7 [(.int .i64 0)])),
(none,.e (.store 1 false (.t 7) (.c (.int .i64 0))))])
(.seq (.seq (.ops [(none,.v (.mov 23 (.t 1))),
(none,.e (.call (some 24) 32 [(.t 23)]))])
(.block 0 (.rngf (.t 24) #[25,26] (.seq (.ops [(none,.v (.mov 8 (.t 25)))])
(.ops [(none,.v (.mov 9 (.t 26)))])) (.block 1 (.seq (.ops [(none,.v (.mov 27 (.t 9))),
(none,.v (.bin 28 .eql false (.t 27) (.c (.int .i64 0))))])
(.cond 28
(.ops [(none,.v (.load 29 false 1 (.t 7))),
(none,.v (.bin 30 .add false (.t 29) (.c (.int .i64 1)))),
(none,.e (.store 1 false (.t 7) (.t 30)))])
(.ops [(none,.v (.load 31 false 1 (.t 6))),
(none,.v (.mov 32 (.t 9))),
(none,.v (.mov 33 (.t 8))),
(none,.v (.bin 34 .add false (.t 33) (.c (.int .i64 1)))),
(none,.e (.mput (.int .i64) (.t 31) (.t 32) (.t 34)))])))))))
(.seq (.ops [(none,.v (.mov 10 (.c (.int .i64 0))))])
(.seq (.seq (.ops [(none,.v (.mov 35 (.t 0))),
(none,.p (.len 36 (.t 35))),
(none,.v (.mov 37 (.c (.int .i64 0))))])
(.block 2 (.loop (.seq (.ops [(none,.v (.bin 38 .lss false (.t 37) (.t 36)))])
(.seq (.cond 38
.skip
(.exit 2))
(.seq (.block 3 (.seq (.ops [(none,.v (.mov 39 (.t 37))),
(none,.p (.idx 40 5 (.t 35) (.t 37))),
(none,.v (.load 41 true 5 (.t 40))),
(none,.e (.alloc 11 [(.int .i64 0)])),
(none,.e (.alloc 12 [(.int .i64 0),(.int .i64 0),(.int .i64 0),(.raw (.slice none 0 0)),(.raw (.slice none 0 0))])),
(none,.e (.store 1 false (.t 11) (.t 39))),
(none,.e (.store 5 true (.t 12) (.t 41)))])
(.seq (.ops [(none,.v (.mov 13 (.c (.bool false))))])
(.seq (.seq (.ops [(none,.v (.fld 42 0 (.t 12))),
(none,.v (.load 43 false 1 (.t 42)))])
(.block 4 (.seq (.ops [(none,.v (.bin 45 .eql false (.t 43) (.c (.int .i64 1)))),
(none,.v (.mov 44 (.t 45)))])
(.cond 44
(.ops [(none,.v (.load 46 false 1 (.t 6))),
(none,.v (.fld 47 1 (.t 12))),
(none,.v (.load 48 false 1 (.t 47))),
(none,.p (.look 49 false (.int .i64) (.int .i64 0) (.t 46) (.t 48))),
(none,.v (.bin 50 .gtr false (.t 49) (.c (.int .i64 0)))),
(none,.v (.mov 51 (.t 50))),
(some (51,true),.v (.load 52 false 1 (.t 6))),
(some (51,true),.v (.fld 53 1 (.t 12))),
(some (51,true),.v (.load 54 false 1 (.t 53))),
(some (51,true),.p (.look 55 false (.int .i64) (.int .i64 0) (.t 52) (.t 54))),
(some (51,true),.v (.mov 56 (.t 10))),
(some (51,true),.v (.bin 57 .lss false (.t 55) (.t 56))),
(none,.v (.pick 58 (.t 51) (.t 57) (.c (.bool false)))),
(none,.v (.mov 13 (.t 58)))])
(.seq (.ops [(none,.v (.bin 60 .eql false (.t 43) (.c (.int .i64 2)))),
(none,.v (.mov 59 (.t 60)))])
(.cond 59
(.seq (.any false (.pure0 none (.v (.fld 61 2 (.t 12)))
(.pure0 none (.v (.load 62 false 1 (.t 61)))
(.pure0 none (.v (.mov 63 (.t 1)))
(.pure0 none (.p (.len 64 (.t 63)))
(.pure0 none (.v (.bin 65 .gtr false (.t 62) (.t 64)))
(.pure0 none (.v (.mov 66 (.t 65)))
(.pure0 (some (66,false)) (.v (.mov 67 (.t 1)))
(.pure0 (some (66,false)) (.v (.fld 68 2 (.t 12)))
(.pure0 (some (66,false)) (.v (.load 69 false 1 (.t 68)))
(.pure0 (some (66,false)) (.v (.bin 70 .sub false (.t 69) (.c (.int .i64 1))))
(.pure0 (some (66,false)) (.p (.idx 71 1 (.t 67) (.t 70)))
(.pure0 (some (66,false)) (.v (.load 72 false 1 (.t 71)))
(.pure0 (some (66,false)) (.v (.fld 73 1 (.t 12)))
(.pure0 (some (66,false)) (.v (.load 74 false 1 (.t 73)))
(.pure0 (some (66,false)) (.v (.bin 75 .neq false (.t 72) (.t 74)))
(.pure0 none (.v (.pick 76 (.t 66) (.c (.bool true)) (.t 75)))
(.pure0 none (.v (.mov 13 (.t 76)))
.done))))))))))))))))))
(.ops [(none,.v (.fld 77 2 (.t 12))),
(none,.v (.load 78 false 1 (.t 77))),
(none,.v (.mov 10 (.t 78)))]))
(.seq (.ops [(none,.v (.bin 80 .eql false (.t 43) (.c (.int .i64 3)))),
(none,.v (.mov 79 (.t 80)))])
(.cond 79
(.ops [(none,.v (.load 81 false 1 (.t 6))),
(none,.v (.fld 82 1 (.t 12))),
(none,.v (.load 83 false 1 (.t 82))),
(none,.p (.look 84 false (.int .i64) (.int .i64 0) (.t 81) (.t 83))),
(none,.v (.bin 85 .gtr false (.t 84) (.c (.int .i64 0)))),
(none,.v (.mov 13 (.t 85)))])
(.seq (.ops [(none,.v (.bin 87 .eql false (.t 43) (.c (.int .i64 4)))),
(none,.v (.mov 86 (.t 87)))])
(.cond 86
(.seq (.ops [(none,.v (.mov 88 (.t 0))),
(none,.v (.load 89 false 1 (.t 11))),
(none,.e (.call (some 90) 33 [(.t 88),(.t 89)])),
(none,.e (.alloc 14 [(.int .i64 0)])),
(none,.e (.store 1 false (.t 14) (.t 90)))])
(.ops [(none,.v (.mov 91 (.t 0))),
(none,.v (.load 92 false 1 (.t 11))),
(none,.p (.pre 93 5 (.t 91) (some (.t 92)))),
(none,.e (.call (some 94) 35 [(.t 93)])),
(none,.v (.fn 95 (.func 36) [] [(.t 6),(.t 14)])),
(none,.e (.call (some 96) 34 [(.t 94),(.t 95)])),
(none,.v (.mov 13 (.t 96)))]))
(.seq (.ops [(none,.v (.bin 98 .eql false (.t 43) (.c (.int .i64 5)))),
(none,.v (.mov 97 (.t 98)))])
(.cond 97
(.seq (.ops [(none,.v (.fn 99 (.func 37) [] [(.t 5),(.t 11)])),
(none,.v (.mov 15 (.t 99)))])
(.any false (.pure0 none (.v (.fld 100 2 (.t 12)))
(.pure0 none (.v (.load 101 false 1 (.t 100)))
(.pure0 none (.v (.mov 102 (.t 1)))
(.pure0 none (.p (.len 103 (.t 102)))
(.pure0 none (.v (.bin 104 .gtr false (.t 101) (.t 103)))
(.pure0 none (.v (.mov 105 (.t 104)))
(.pure0 (some (105,false)) (.v (.fld 106 2 (.t 12)))
(.pure0 (some (105,false)) (.v (.load 107 false 1 (.t 106)))
(.pure0 (some (105,false)) (.v (.mov 108 (.t 10)))
(.pure0 (some (105,false)) (.v (.bin 109 .lss false (.t 107) (.t 108)))
(.pure0 none (.v (.pick 110 (.t 105) (.c (.bool true)) (.t 109)))
(.pure0 none (.v (.mov 111 (.t 110)))
(.pure0 (some (111,false)) (.v (.mov 112 (.t 1)))
(.pure0 (some (111,false)) (.v (.fld 113 2 (.t 12)))
(.pure0 (some (111,false)) (.v (.load 114 false 1 (.t 113)))
(.pure0 (some (111,false)) (.v (.mov 115 (.t 1)))
(.pure0 (some (111,false)) (.p (.len 116 (.t 115)))
(.pure0 (some (111,false)) (.v (.min 117 [(.t 114),(.t 116)]))
(.pure0 (some (111,false)) (.p (.pre 118 1 (.t 112) (some (.t 117))))
(.pure0 (some (111,false)) (.v (.mov 119 (.t 15)))
(.alt (some (111,false)) (.e (.call (some 120) 34 [(.t 118),(.t 119)]))
(.base (.pure0 none (.v (.pick 121 (.t 111) (.c (.bool true)) (.t 120)))
(.pure0 none (.v (.mov 122 (.t 121)))
(.pure0 (some (122,false)) (.v (.fld 123 4 (.t 12)))
(.pure0 (some (122,false)) (.v (.load 124 false 1 (.t 123)))
(.pure0 (some (122,false)) (.v (.mov 125 (.t 0)))
(.pure0 (some (122,false)) (.v (.mov 126 (.t 1)))
(.pure0 (some (122,false)) (.v (.fld 127 2 (.t 12)))
(.pure0 (some (122,false)) (.v (.load 128 false 1 (.t 127)))
(.alt (some (122,false)) (.e (.call (some 129) 23 [(.t 125),(.t 126),(.t 128)]))
(.base (.alt (some (122,false)) (.e (.call (some 130) 26 [(.t 124),(.t 129)]))
(.base (.pure0 (some (122,false)) (.v (.not 131 (.t 130)))
(.pure0 none (.v (.pick 132 (.t 122) (.c (.bool true)) (.t 131)))
(.pure0 none (.v (.mov 13 (.t 132)))
.done))))
.stop))
.stop))))))))))
.stop)))))))))))))))))))))))
.skip))))))))))))
(.seq (.ops [(none,.v (.mov 133 (.t 13)))])
(.cond 133
(.seq (.ops [(none,.v (.load 134 false 1 (.t 11))),
(none,.v (.mov 4 (.t 134)))])
.ret)
.skip))))))
(.ops [(none,.v (.bin 135 .add false (.t 37) (.c (.int .i64 1)))),
(none,.v (.mov 37 (.t 135)))])))))))
(.seq (.seq (.ops [(none,.v (.mov 136 (.t 1))),
(none,.p (.len 137 (.t 136))),
(none,.v (.mov 138 (.t 0))),
(none,.e (.call (some 139) 19 [(.t 138)])),
(none,.v (.bin 140 .neq false (.t 137) (.t 139))),
(none,.v (.mov 141 (.t 140))),
(some (141,false),.v (.load 142 false 1 (.t 6))),
(some (141,false),.p (.mlen 143 (.t 142))),
(some (141,false),.v (.load 144 false 1 (.t 7))),
(some (141,false),.v (.bin 145 .add false (.t 143) (.t 144))),
(some (141,false),.v (.mov 146 (.t 1))),
(some (141,false),.p (.len 147 (.t 146))),
(some (141,false),.v (.bin 148 .neq false (.t 145) (.t 147))),
(none,.v (.pick 149 (.t 141) (.c (.bool true)) (.t 148)))])
(.cond 149
(.seq (.ops [(none,.v (.mov 150 (.t 0))),
(none,.p (.len 151 (.t 150))),
(none,.v (.mov 4 (.t 151)))])
.ret)
.skip))
(.seq (.seq (.ops [(none,.v (.mov 152 (.t 1))),
(none,.p (.len 153 (.t 152))),
(none,.v (.mov 154 (.c (.int .i64 0))))])
(.block 5 (.loop (.seq (.ops [(none,.v (.bin 155 .lss false (.t 154) (.t 153)))])
(.seq (.cond 155
.skip
(.exit 5))
(.seq (.block 6 (.seq (.ops [(none,.p (.idx 156 1 (.t 152) (.t 154))),
(none,.v (.load 157 false 1 (.t 156))),
(none,.v (.mov 17 (.t 157)))])
(.seq (.ops [(none,.v (.load 159 false 1 (.t 5))),
(none,.v (.mov 160 (.t 17))),
(none,.p (.look 161 true (.int .i64) (.int .i64 0) (.t 159) (.t 160))),
(none,.v (.mov 158 (.t 161))),
(none,.v (.ext 162 0 (.t 158))),
(none,.v (.ext 163 1 (.t 158))),
(none,.v (.mov 18 (.t 162))),
(none,.v (.mov 19 (.t 163)))])
(.seq (.ops [(none,.v (.mov 164 (.t 19))),
(none,.v (.not 165 (.t 164))),
(none,.v (.mov 166 (.t 165))),
(some (166,true),.v (.mov 167 (.t 17))),
(some (166,true),.v (.bin 168 .neq false (.t 167) (.c (.int .i64 0)))),
(none,.v (.pick 169 (.t 166) (.t 168) (.c (.bool false))))])
(.cond 169
(.seq (.ops [(none,.v (.mov 170 (.t 0))),
(none,.p (.len 171 (.t 170))),
(none,.v (.mov 4 (.t 171)))])
.ret)
.skip)))))
(.ops [(none,.v (.bin 172 .add false (.t 154) (.c (.int .i64 1)))),
(none,.v (.mov 154 (.t 172)))])))))))
(.seq (.ops [(none,.v (.mov 4 (.c (.int .i64 (-1)))))])
.ret)))))))))
theorem ok10 : FnOk E 10 173 [.tmp 4] mc10 := .of func10 (by kernel_rfl) (by kernel_rfl) (by kernel_rfl) (by kernel_rfl) (by kernel_rfl)
end Go.Proofs.Try
namespace Go.Proofs.Try
open Go.Proofs.Tryz
open Go.Al
set_option linter.unusedVariables false
set_option linter.unusedSimpArgs false
set_option maxRecDepth 20000
set_option maxHeartbeats 8000000

theorem find_range {n i : Nat} {p : Nat → Bool} (hi : i < n) (hp : p i = true) (hn : ∀ j, j < i → p j = false) : (List.range n).find? p = some i := by
  have := find_at (p := p) (l := List.range n) (i := i) (by simpa using hi) (by simpa [hi] using hp) fun x hx => by
    obtain ⟨j, hj, rfl⟩ := List.mem_take_iff_getElem.1 hx
    simp only [List.getElem_range]
    exact hn j (by omega)
  rw [this]
  simp [hi]
theorem c10 (h : List Hap) (hr : rightB h = true) (order : List Int) (ho : order.length ≤ 10000) :
    ACalls E.P 10 [.view 5 (h.map Hap.av), .view 1 (order.map (AV.int .i64))] [] (fun r H => r = .int .i64 (checkH h order) ∧ H = []) := by
  have hmax := maxLen_eq
  have h12 := c31 h
  have h13 := c32 order
  have h400 := rightB_len hr
  refine ok10.acalls hE hm (by simp) fun N hN => ?_
  unfold mc10
  simp only [lA,ptrCells,ptrAdd,isNil,readsV,readsP,isCall,wrote,srcOf,seval]
  repeat' (first | (with_reducible apply St.o; constructor) <;> intro _ | (with_reducible first | refine LenR_i fun _ => ?_ | refine And.intro (by omega) ?_ | (apply Sp.o; constructor) | refine mkl_own ?_ | refine frz0_i ?_) | ((with_reducible apply Sc.o false; constructor); simp only [lP,seval,renL_kM,renL_vI,List.length_map]; (first | (refine ⟨_,h12,?_⟩; rintro _ _ ⟨rfl,bs,c,rfl⟩) | (refine ⟨_,h13,?_⟩; rintro _ _ ⟨rfl,rfl⟩)); simp only [lA,lP,ptrCells,ptrAdd,isNil,readsV,readsP,isCall,wrote,srcOf,seval,renL_kM,renL_vI,List.length_map]) | simp (maxSteps := 1000000) (disch := omega) only [lE,ptrCells,ptrAdd,isNil,readsV,readsP,isCall,wrote,srcOf,seval,renL_kM,renL_vI,List.length_map])
  refine rng_i hN [(6, .op 3 0), (7, .op 4 0)] (by simp [FrSub, Go.Al.get]) fun fn cas bd hy => ?_
  let lo : LoopState → AObj := fun st => .loop st none [(6, .op 3 0), (7, .op 4 0)] N.n fn #[25, 26] cas bd
  let S : List (Int × Int) × Int → (Nat → Prop) → List AObj → Prop := fun y G H => ∃ bs2 c2, WfM y.1.length bs2 c2 ∧ 0 ≤ y.2 ∧ y.2 ≤ 10000 ∧ H[0]? = some (.map (kM (asksM h)) (vM (AV.int .i64) (asksM h)) bs c) ∧ H[1]? = some (.map (kM y.1) (vM (AV.int .i64) y.1) bs2 c2) ∧ H[2]? = some (.box [.mp 0]) ∧ H[3]? = some (.box [.mp 1]) ∧
    H[4]? = some (.box [.int .i64 y.2]) ∧ H[5]? = some (lo .ready) ∧ 6 ≤ H.length ∧ ∀ i, G i → 6 ≤ i ∧ i < H.length
  have hG : Grows S := ⟨fun y G H o ⟨b, c', h1, h2, h2b, h3, h4, h5, h6, h7, h8, h9, h10⟩ => ⟨b, c', h1, h2, h2b, by rw [at_app _ _ _ (by omega)]; exact h3, by rw [at_app _ _ _ (by omega)]; exact h4, by rw [at_app _ _ _ (by omega)]; exact h5, by rw [at_app _ _ _ (by omega)]; exact h6, by rw [at_app _ _ _ (by omega)]; exact h7, by rw [at_app _ _ _ (by omega)]; exact h8, by simp; omega, fun i hi => by
      rcases hi with hi | rfl
      · have := h10 i hi; simp; omega
      · simp; omega⟩,
    fun y G G' H ⟨b, c', h1, h2, h2b, h3, h4, h5, h6, h7, h8, h9, h10⟩ hw => ⟨b, c', h1, h2, h2b, h3, h4, h5, h6, h7, h8, h9, fun i hi => h10 i (hw i hi)⟩,
    fun y G H i ⟨b, c', h1, h2, h2b, h3, h4, h5, h6, h7, h8, h9, h10⟩ hi => (h10 i hi).2⟩
  have hY : ∀ y j t G H, j < order.length → order.getD j 0 = t → y = foldB bkStep ([], 0) (j + 1) (order.drop (j + 1)) → S y G H → AYield E.P 5 [.int .i64 j, .int .i64 t] H (fun r H' => r = .bool true ∧ Bhd S (bkStep y j t) G H H') := by
    rintro y j t G H hj ht hyb ⟨b2, c2, h1, h2, h2b, h3, h4, h5, h6, h7, h8, h9, h10⟩
    have hb := (bk_len (order.drop (j + 1)) (j + 1)).1
    rw [← hyb] at hb
    have hb2 := List.length_filter_le (fun t => decide (t = 0)) (order.drop (j + 1))
    rw [List.length_drop] at hb2
    refine hy 5 [(6, .op 3 0), (7, .op 4 0)] [.int .i64 j, .int .i64 t] H _ h8 rfl fun N2 hN2 => ?_
    simp only [lA,ptrCells,ptrAdd,isNil,readsV,readsP,isCall,wrote,srcOf,seval]
    refine ⟨h8, ?_⟩
    have b1 : (H.set 5 (.loop .busy none [(6, .op 3 0), (7, .op 4 0)] N.n fn #[25, 26] cas bd))[1]? = H[1]? := at_set _ _ _ _ (by omega)
    have b3 : (H.set 5 (.loop .busy none [(6, .op 3 0), (7, .op 4 0)] N.n fn #[25, 26] cas bd))[3]? = H[3]? := at_set _ _ _ _ (by omega)
    have b4 : (H.set 5 (.loop .busy none [(6, .op 3 0), (7, .op 4 0)] N.n fn #[25, 26] cas bd))[4]? = H[4]? := at_set _ _ _ _ (by omega)
    rw [h4] at b1
    rw [h6] at b3
    rw [h7] at b4
    obtain ⟨b5, c4, hput, hw5⟩ := wf_put (AV.int .i64) h1 t ((j : Int) + 1)
    by_cases hz : t = 0
    · subst hz
      repeat' (first | (with_reducible apply St.o; constructor) <;> intro _ | (with_reducible first | refine LenR_i fun _ => ?_ | refine And.intro (by omega) ?_ | (apply Sp.o; constructor) | refine mkl_own ?_ | refine frz0_i ?_) | simp (maxSteps := 1000000) (disch := omega) only [lE,ptrCells,ptrAdd,isNil,readsV,readsP,isCall,wrote,srcOf,seval,b1,b3,b4])
      all_goals try (exfalso; omega)
      have hst : bkStep y j 0 = (y.1, y.2 + 1) := if_pos rfl
      have hl : ∀ o o' o'' i, i ≠ 5 → i ≠ 4 → (((H.set 5 o).set 4 o').set 5 o'')[i]? = H[i]? := fun o o' o'' i q1 q2 => by
        rw [at_set _ _ 5 i (by omega), at_set _ _ 4 i (by omega), at_set _ _ 5 i (by omega)]
      refine round_i (o := fun st pd => .loop st pd [(6, .op 3 0), (7, .op 4 0)] N.n fn #[25, 26] cas bd) (by rw [at_set _ _ 4 5 (by omega)]; exact at_same _ _ 5 (by omega)) ⟨rfl, ?_⟩
      rw [hst]
      refine ⟨⟨b2, c2, h1, by simp only; omega, by simp only; omega, by rw [hl _ _ _ _ (by omega) (by omega)]; exact h3, by rw [hl _ _ _ _ (by omega) (by omega)]; exact h4, by rw [hl _ _ _ _ (by omega) (by omega)]; exact h5, by rw [hl _ _ _ _ (by omega) (by omega)]; exact h6, by rw [at_set _ _ 5 4 (by omega)]; exact at_same _ _ 4 (by simp; omega), at_same _ _ 5 (by simp; omega), by simp; omega, fun i hi => by have := h10 i hi; simp; omega⟩, by simp, fun i hi => by have := h10 i hi; exact hl _ _ _ _ (by omega) (by omega)⟩
    · repeat' (first | (with_reducible apply St.o; constructor) <;> intro _ | (with_reducible first | refine LenR_i fun _ => ?_ | refine And.intro (by omega) ?_ | (apply Sp.o; constructor) | refine mkl_own ?_ | refine frz0_i ?_) | simp (maxSteps := 1000000) (disch := omega) only [lE,ptrCells,ptrAdd,isNil,readsV,readsP,isCall,wrote,srcOf,seval,b1,b3,b4,hput])
      all_goals try (exfalso; omega)
      have hst : bkStep y j t = (setM y.1 t ((j : Int) + 1), y.2) := if_neg hz
      have hl : ∀ o o' o'' i, i ≠ 5 → i ≠ 1 → (((H.set 5 o).set 1 o').set 5 o'')[i]? = H[i]? := fun o o' o'' i q1 q2 => by
        rw [at_set _ _ 5 i (by omega), at_set _ _ 1 i (by omega), at_set _ _ 5 i (by omega)]
      refine round_i (o := fun st pd => .loop st pd [(6, .op 3 0), (7, .op 4 0)] N.n fn #[25, 26] cas bd) (by rw [at_set _ _ 1 5 (by omega)]; exact at_same _ _ 5 (by omega)) ⟨rfl, ?_⟩
      rw [hst]
      refine ⟨⟨b5, c4, hw5, h2, h2b, by rw [hl _ _ _ _ (by omega) (by omega)]; exact h3, by rw [at_set _ _ 5 1 (by omega)]; exact at_same _ _ 1 (by simp; omega), by rw [hl _ _ _ _ (by omega) (by omega)]; exact h5, by rw [hl _ _ _ _ (by omega) (by omega)]; exact h6, by rw [hl _ _ _ _ (by omega) (by omega)]; exact h7, at_same _ _ 5 (by simp; omega), by simp; omega, fun i hi => by have := h10 i hi; simp; omega⟩, by simp, fun i hi => by have := h10 i hi; exact hl _ _ _ _ (by omega) (by omega)⟩
  have h38 := c60g (S := S) (id := 5) hG bkStep order (by omega) ([], 0) hY (fun _ => False)
    [.map (kM (asksM h)) (vM (AV.int .i64) (asksM h)) bs c, .map [] [] [] 0, .box [.mp 0], .box [.mp 1], .box [.int .i64 0], lo .ready] ⟨[], 0, ⟨rfl, .nil, by simp⟩, by simp, by simp, rfl, rfl, rfl, rfl, rfl, rfl, by simp, fun i hi => hi.elim⟩
  refine ⟨_, h38, ?_⟩
  rintro r H' ⟨⟨b2, c2, h1, h2, h2b, h3, h4, h5, h6, h7, h8, h9, _⟩, _, _⟩
  have g : ∀ i, i < 5 → (H'.set 5 .lost)[i]? = H'[i]? := fun i hi => at_set _ _ 5 i (by omega)
  have g0 := (g 0 (by omega)).trans h3
  have g1 := (g 1 (by omega)).trans h4
  have g2 := (g 2 (by omega)).trans h5
  have g3 := (g 3 (by omega)).trans h6
  have g4 := (g 4 (by omega)).trans h7
  have hl6 : 6 ≤ (H'.set 5 .lost).length := by simpa using h9
  have hbk : foldB bkStep ([], 0) 0 order = bkM order := rfl
  rw [hbk] at h1 h2 h2b g1 g4
  refine ⟨.ready, none, [(6, .op 3 0), (7, .op 4 0)], h8, by simp, [(0, .view 5 (h.map Hap.av)), (1, .view 1 (order.map (AV.int .i64))), (5, .op 2 0), (6, .op 3 0), (7, .op 4 0)], [.map (kM (asksM h)) (vM (AV.int .i64) (asksM h)) bs c, .map (kM (bkM order).1) (vM (AV.int .i64) (bkM order).1) b2 c2, .box [.mp 0], .box [.mp 1], .box [.int .i64 (bkM order).2]], ?_, ?_⟩
  · generalize H'.set 5 .lost = H2 at *
    refine Ent.to [0, 1, 2, 3, 4] false (by simp; omega) (by simp) rfl ?_ ?_
    · simp [FrLe, Go.Al.get, lP, seval, g0, g1, g2, g3, g4]
    · simp only [lP,seval,g0,g1,g2,g3,g4,pa_kM,pa_vI]
  simp only [lA,ptrCells,ptrAdd,isNil,readsV,readsP,isCall,wrote,srcOf,seval]
  have hlt0 : latest [] = 0 := rfl
  refine LenR_i fun hl => ?_
  simp only [lA,ptrCells,ptrAdd,isNil,readsV,readsP,isCall,wrote,srcOf,seval,List.length_map]
  refine loop_i (fun i : Nat => i ≤ h.length ∧ ∀ j, j < i → badAt h order j = false)
    (fun i => ⟨[(0, .view 5 (h.map Hap.av)), (1, .view 1 (order.map (AV.int .i64))), (5, .op 2 0), (6, .op 3 0), (7, .op 4 0), (10, .int .i64 (latest (h.take i))), (35, .view 5 (h.map Hap.av)), (36, .int .i64 h.length), (37, .int .i64 i)], [.map (kM (asksM h)) (vM (AV.int .i64) (asksM h)) bs c, .map (kM (bkM order).1) (vM (AV.int .i64) (bkM order).1) b2 c2, .box [.mp 0], .box [.mp 1], .box [.int .i64 (bkM order).2]]⟩) (fun i => h.length - i) 0 ⟨by omega, fun j hj => by omega⟩
    (Ent.to [0, 1, 2, 3, 4] false (by simp) (by simp) rfl (by simp only [lP,seval,List.take_zero,hlt0,pa_kM,pa_vI] <;> (try simp) <;> (try omega)) (by simp only [lP,seval,List.take_zero,hlt0,pa_kM,pa_vI] <;> (try simp) <;> (try omega))) ?_
  rintro i ⟨hi, hn⟩
  by_cases hil : i < h.length
  · have hyes : badAt h order i = true → checkH h order = i := fun q => by
      unfold checkH
      rw [find_range (n := h.length) hil q hn]
    have hno : badAt h order i = false → (i + 1 ≤ h.length ∧ ∀ j, j < i + 1 → badAt h order j = false) := fun q => ⟨by omega, fun j hj => by
      by_cases e : j = i
      · rw [e]; exact q
      · exact hn j (by omega)⟩
    have hev := right_at hr hil
    have hnx := latest_next hil
    have hbd : badAt h order i = badAt h order i := rfl
    conv at hbd => rhs; unfold badAt
    have hlk := look_bk order (h.getD i default).tx
    generalize hx : h.getD i default = x at *
    generalize hlt : latest (h.take i) = last at *
    generalize hlt1 : latest (h.take (i + 1)) = last1 at *
    obtain ⟨k, tx, st, ws, rs⟩ := x
    rw [eventOk_eq, Bool.and_eq_true] at hev
    have hcase : k = 1 ∨ k = 2 ∨ k = 3 ∨ k = 4 ∨ k = 5 ∨ (¬ k = 1 ∧ ¬ k = 2 ∧ ¬ k = 3 ∧ ¬ k = 4 ∧ ¬ k = 5) := by omega
    simp only at hlk
    rcases hcase with rfl | rfl | rfl | rfl | rfl | ⟨k1, k2, k3, k4, k5⟩
    · have hb1 : badAt h order i = (decide (0 < placeH order tx) && decide (placeH order tx < last)) := hbd
      have hn1 : last1 = last := hnx
      rw [hb1] at hyes hno
      repeat' (first | (with_reducible apply St.o; constructor) <;> intro _ | (with_reducible first | refine LenR_i fun _ => ?_ | refine And.intro (by omega) ?_ | (apply Sp.o; constructor) | refine mkl_own ?_ | refine frz0_i ?_) | simp (maxSteps := 1000000) (disch := omega) only [lE,ptrCells,ptrAdd,isNil,readsV,readsP,isCall,wrote,srcOf,seval,IdxR_haps,hx,Int.toNat_natCast,List.length_map,fillE,List.length_cons,List.length_nil,hlk])
      all_goals try (exfalso; omega)
      all_goals first
        | (exfalso; omega)
        | exact keep_n (hyes (by simp [*])).symm
        | exact back_i (i + 1) (hno (by simp [*])) (by omega) (Ent.to [0, 1, 2, 3, 4] false (by simp) (by simp) rfl (by simp only [lP,seval,hlt1,hn1,pa_kM,pa_vI] <;> (try simp) <;> (try omega)) (by simp only [lP,seval,hlt1,hn1,pa_kM,pa_vI] <;> (try simp) <;> (try omega)))
    · have hb1 : badAt h order i = (decide ((order.length : Int) < st) || !decide (order.getD (st - 1).toNat 0 = tx)) := hbd
      have hq := hev.2
      simp only [evB,show ¬ (2 : Int) = 1 by decide,if_false,if_true,numb,Bool.and_eq_true,decide_eq_true_eq] at hq
      rw [hlt] at hq
      obtain ⟨_, ⟨q1, q2⟩, q3⟩ := hq
      have hn1 : last1 = st := by
        have : last1 = max last st := hnx
        omega
      rw [hb1] at hyes hno
      clear hb1 hbd
      generalize hu : order.getD (st - 1).toNat 0 = u at *
      repeat' (first | (with_reducible apply St.o; constructor) <;> intro _ | (with_reducible first | refine LenR_i fun _ => ?_ | refine And.intro (by omega) ?_ | (apply Sp.o; constructor) | refine mkl_own ?_ | refine frz0_i ?_ | refine any_i [] ?_) | simp (maxSteps := 1000000) (disch := omega) only [lE,ptrCells,ptrAdd,isNil,readsV,readsP,isCall,wrote,srcOf,seval,IdxR_haps,IdxR_int,hx,hu,Int.toNat_natCast,List.length_map,fillE,List.length_cons,List.length_nil])
      all_goals first
        | (exfalso; omega)
        | exact keep_n (hyes (by simp [*])).symm
        | exact back_i (i + 1) (hno (by simp [*])) (by omega) (Ent.to [0, 1, 2, 3, 4] false (by simp) (by simp) rfl (by simp only [lP,seval,hlt1,hn1,pa_kM,pa_vI] <;> (try simp) <;> (try omega)) (by simp only [lP,seval,hlt1,hn1,pa_kM,pa_vI] <;> (try simp) <;> (try omega)))
    · have hb1 : badAt h order i = decide (0 < placeH order tx) := hbd
      have hn1 : last1 = last := hnx
      rw [hb1] at hyes hno
      repeat' (first | (with_reducible apply St.o; constructor) <;> intro _ | (with_reducible first | refine LenR_i fun _ => ?_ | refine And.intro (by omega) ?_ | (apply Sp.o; constructor) | refine mkl_own ?_ | refine frz0_i ?_) | simp (maxSteps := 1000000) (disch := omega) only [lE,ptrCells,ptrAdd,isNil,readsV,readsP,isCall,wrote,srcOf,seval,IdxR_haps,hx,Int.toNat_natCast,List.length_map,fillE,List.length_cons,List.length_nil,hlk])
      all_goals first
        | (exfalso; omega)
        | exact keep_n (hyes (by simp [*])).symm
        | exact back_i (i + 1) (hno (by simp [*])) (by omega) (Ent.to [0, 1, 2, 3, 4] false (by simp) (by simp) rfl (by simp only [lP,seval,hlt1,hn1,pa_kM,pa_vI] <;> (try simp) <;> (try omega)) (by simp only [lP,seval,hlt1,hn1,pa_kM,pa_vI] <;> (try simp) <;> (try omega)))
    · have hb1 : badAt h order i = (openL (h.take i)).any (fun t => decide (nextS (h.drop i) < placeH order t)) := hbd
      have hn1 : last1 = last := hnx
      rw [hb1] at hyes hno
      have h14 := c33 h i hi
      have h16 := c35 (h.take i) (by rw [List.length_take]; omega)
      have hvt : (h.map Hap.av).take i = (h.take i).map Hap.av := List.map_take.symm
      have h15 := c34 (openL (h.take i)) 36 [.vp [.mview (kM (bkM order).1) (vM (AV.int .i64) (bkM order).1)], .vp [.int .i64 (nextS (h.drop i))]] (fun t => decide (nextS (h.drop i) < placeH order t)) (fun t _ => c36 order _ t) (fun H ids bor => by simp only [lP,seval]) (fun H ids bor => by simp only [lP,seval])
      clear hb1 hbd
      generalize (openL (h.take i)).any (fun t => decide (nextS (h.drop i) < placeH order t)) = b at *
      repeat' (first | (with_reducible apply St.o; constructor) <;> intro _ | (with_reducible first | refine LenR_i fun _ => ?_ | refine And.intro (by omega) ?_ | (apply Sp.o; constructor) | refine mkl_own ?_ | refine frz0_i ?_) | ((with_reducible apply Sc.o true; constructor); simp only [lP,seval,IdxR_haps,hx,hvt,vw_kM,vw_vI,Int.toNat_natCast,List.length_map,fillE,List.length_cons,List.length_nil]; (first | refine ⟨_,h14,?_⟩ | refine ⟨_,h15,?_⟩); rintro _ _ ⟨rfl,rfl⟩; simp only [lA,lP,ptrCells,ptrAdd,isNil,readsV,readsP,isCall,wrote,srcOf,seval,IdxR_haps,hx,hvt,vw_kM,vw_vI,Int.toNat_natCast,List.length_map,fillE,List.length_cons,List.length_nil]) | ((with_reducible apply Sc.o false; constructor); simp only [lP,seval,IdxR_haps,hx,hvt,vw_kM,vw_vI,Int.toNat_natCast,List.length_map,fillE,List.length_cons,List.length_nil]; refine ⟨_,h16,?_⟩; rintro _ _ ⟨rfl,rfl⟩; simp only [lA,lP,ptrCells,ptrAdd,isNil,readsV,readsP,isCall,wrote,srcOf,seval,IdxR_haps,hx,hvt,vw_kM,vw_vI,Int.toNat_natCast,List.length_map,fillE,List.length_cons,List.length_nil]) | simp (maxSteps := 1000000) (disch := omega) only [lE,ptrCells,ptrAdd,isNil,readsV,readsP,isCall,wrote,srcOf,seval,IdxR_haps,hx,hvt,vw_kM,vw_vI,Int.toNat_natCast,List.length_map,fillE,List.length_cons,List.length_nil])
      all_goals first
        | (exfalso; omega)
        | exact keep_n (hyes (by simp [*])).symm
        | exact back_i (i + 1) (hno (by simp [*])) (by omega) (Ent.to [0, 1, 2, 3, 4] false (by simp) (by simp) rfl (by simp only [lP,seval,hlt1,hn1,pa_kM,pa_vI] <;> (try simp) <;> (try omega)) (by simp only [lP,seval,hlt1,hn1,pa_kM,pa_vI] <;> (try simp) <;> (try omega)))
    · have hb1 : badAt h order i = (decide ((order.length : Int) < st) || decide (st < last) || (order.take st.toNat).any (lateH h i) || !decide (rs = stL h order st.toNat)) := hbd
      have hn1 : last1 = last := hnx
      rw [hb1] at hyes hno
      have hq := hev.2
      simp only [evB,show ¬ (5 : Int) = 1 by decide,show ¬ (5 : Int) = 2 by decide,show ¬ (5 : Int) = 3 by decide,if_false,if_true,Bool.and_eq_true,decide_eq_true_eq] at hq
      obtain ⟨q1, q2, _⟩ := hq
      by_cases hA : (order.length : Int) < st
      · repeat' (first | (with_reducible apply St.o; constructor) <;> intro _ | (with_reducible first | refine LenR_i fun _ => ?_ | refine And.intro (by omega) ?_ | (apply Sp.o; constructor) | refine mkl_own ?_ | refine frz0_i ?_ | refine any_i [] ?_) | simp (maxSteps := 1000000) (disch := omega) only [lE,ptrCells,ptrAdd,isNil,readsV,readsP,isCall,wrote,srcOf,seval,IdxR_haps,hx,hA,decide_true,Int.toNat_natCast,List.length_map,fillE,List.length_cons,List.length_nil])
        all_goals first
          | (exfalso; omega)
          | exact keep_n (hyes (by simp [*])).symm
          | exact back_i (i + 1) (hno (by simp [*])) (by omega) (Ent.to [0, 1, 2, 3, 4] false (by simp) (by simp) rfl (by simp only [lP,seval,hlt1,hn1,pa_kM,pa_vI] <;> (try simp) <;> (try omega)) (by simp only [lP,seval,hlt1,hn1,pa_kM,pa_vI] <;> (try simp) <;> (try omega)))
      · have hmin : (if (order.length : Int) < st then (order.length : Int) else st) = st := if_neg hA
        have h20 := c23 h hr order ho st
        have hcl : clampN st order.length = st.toNat := by unfold clampN; omega
        rw [hcl] at h20
        have h19 := c26 rs (stL h order st.toNat)
        have hvt : (order.map (AV.int .i64)).take st.toNat = (order.take st.toNat).map (AV.int .i64) := List.map_take.symm
        have h15 := c34 (order.take st.toNat) 37 [.vp [.mview (kM (asksM h)) (vM (AV.int .i64) (asksM h))], .vp [.int .i64 i]] (lateH h i) (fun t _ => c37 h hr i t) (fun H ids bor => by simp only [lP,seval]) (fun H ids bor => by simp only [lP,seval])
        clear hb1 hbd
        generalize (order.take st.toNat).any (lateH h i) = b at *
        repeat' (first | (with_reducible apply St.o; constructor) <;> intro _ | (with_reducible first | refine LenR_i fun _ => ?_ | refine And.intro (by omega) ?_ | (apply Sp.o; constructor) | refine mkl_own ?_ | refine frz0_i ?_ | refine any_i [] ?_) | ((with_reducible apply Sc.o true; constructor); simp only [lP,seval,IdxR_haps,hx,hA,hmin,hvt,vw_kM,vw_vI,decide_false,Int.toNat_natCast,List.length_map,fillE,List.length_cons,List.length_nil]; (first | refine ⟨_,h15,?_⟩ | refine ⟨_,h19,?_⟩); rintro _ _ ⟨rfl,rfl⟩; simp only [lA,lP,ptrCells,ptrAdd,isNil,readsV,readsP,isCall,wrote,srcOf,seval,IdxR_haps,hx,hA,hmin,hvt,vw_kM,vw_vI,decide_false,Int.toNat_natCast,List.length_map,fillE,List.length_cons,List.length_nil]) | ((with_reducible apply Sc.o false; constructor); simp only [lP,seval,IdxR_haps,hx,hA,hmin,hvt,vw_kM,vw_vI,decide_false,Int.toNat_natCast,List.length_map,fillE,List.length_cons,List.length_nil]; refine ⟨_,h20,?_⟩; rintro _ _ ⟨rfl,rfl⟩; simp only [lA,lP,ptrCells,ptrAdd,isNil,readsV,readsP,isCall,wrote,srcOf,seval,IdxR_haps,hx,hA,hmin,hvt,vw_kM,vw_vI,decide_false,Int.toNat_natCast,List.length_map,fillE,List.length_cons,List.length_nil]) | simp (maxSteps := 1000000) (disch := omega) only [lE,ptrCells,ptrAdd,isNil,readsV,readsP,isCall,wrote,srcOf,seval,IdxR_haps,hx,hA,hmin,hvt,vw_kM,vw_vI,decide_false,Int.toNat_natCast,List.length_map,fillE,List.length_cons,List.length_nil])
        all_goals first
          | (exfalso; omega)
          | exact keep_n (hyes (by simp [*])).symm
          | exact back_i (i + 1) (hno (by simp [*])) (by omega) (Ent.to [0, 1, 2, 3, 4] false (by simp) (by simp) rfl (by simp only [lP,seval,hlt1,hn1,pa_kM,pa_vI] <;> (try simp) <;> (try omega)) (by simp only [lP,seval,hlt1,hn1,pa_kM,pa_vI] <;> (try simp) <;> (try omega)))
    · exfalso
      have := hev.1
      simp [plainB, k1, k2, k3, k4, k5] at this
  · have hie : i = h.length := by omega
    subst hie
    have hck : checkH h order = if endOk h order = true then -1 else (h.length : Int) := by
      unfold checkH
      rw [List.find?_eq_none.2 fun j hj => by simpa using hn j (by simpa using hj)]
    have h9 := c19 h
    have honce := bkM_once order
    have hend : endOk h order = (decide ((order.length : Int) = lenH h) && onceB order && order.all fun tx => decide (tx = 0) || inH h tx) := rfl
    have hkl : (kM (bkM order).1).length = (bkM order).1.length := by simp [kM]
    have hb3 := (bk_len order 0).2.1
    have hb4 := List.length_filter_le (fun t => !decide (t = 0)) order
    have hb5 : (bkM order).1.length ≤ order.length := Nat.le_trans hb3 hb4
    have hwr : IntKind.i64.wrap (((bkM order).1.length : Int) + (bkM order).2) = ((bkM order).1.length : Int) + (bkM order).2 := wrap_i64 (by omega) (by omega)
    repeat' (first | (with_reducible apply St.o; constructor) <;> intro _ | (with_reducible first | refine LenR_i fun _ => ?_ | refine And.intro (by omega) ?_ | (apply Sp.o; constructor) | refine mkl_own ?_ | refine frz0_i ?_) | ((with_reducible apply Sc.o true; constructor); simp only [lP,seval,hkl,hwr,Int.lt_irrefl,decide_false,List.length_map]; refine ⟨_,h9,?_⟩; rintro _ _ ⟨rfl,rfl⟩; simp only [lA,lP,ptrCells,ptrAdd,isNil,readsV,readsP,isCall,wrote,srcOf,seval,hkl,hwr,Int.lt_irrefl,decide_false,List.length_map]) | simp (maxSteps := 1000000) (disch := omega) only [lE,ptrCells,ptrAdd,isNil,readsV,readsP,isCall,wrote,srcOf,seval,hkl,hwr,Int.lt_irrefl,decide_false,List.length_map])
    · rename_i g1 g2
      refine keep_n ?_
      have : onceB order = false := by
        rw [Bool.eq_false_iff]
        exact fun q => g2 (honce.2 q)
      rw [hck, hend, this]
      simp
    · rename_i g1 g2
      rw [honce.1 g2, decide_eq_true g1] at hend
      simp only [Bool.true_and] at hend
      refine loop_i (fun j : Nat => j ≤ order.length ∧ ∀ t ∈ order.take j, (decide (t = 0) || inH h t) = true)
        (fun j => ⟨[(0, .view 5 (h.map Hap.av)), (5, .op 2 0), (152, .view 1 (order.map (AV.int .i64))), (153, .int .i64 order.length), (154, .int .i64 j)], [.map (kM (asksM h)) (vM (AV.int .i64) (asksM h)) bs c, .map (kM (bkM order).1) (vM (AV.int .i64) (bkM order).1) b2 c2, .box [.mp 0], .box [.mp 1], .box [.int .i64 (bkM order).2]]⟩) (fun j => order.length - j) 0 ⟨by omega, by simp⟩
        (Ent.to [0, 1, 2, 3, 4] false (by simp) (by simp) rfl (by simp only [lP,seval,List.length_map,pa_kM,pa_vI] <;> (try simp) <;> (try omega)) (by simp only [lP,seval,List.length_map,pa_kM,pa_vI] <;> (try simp) <;> (try omega))) ?_
      rintro j ⟨hj, hall⟩
      by_cases hjl : j < order.length
      · have hlook := look_m (AV.int .i64) (.int .i64 0) (asksM h) (order.getD j 0)
        rw [asksM_all hr] at hlook
        have hyes : (decide (order.getD j 0 = 0) || inH h (order.getD j 0)) = false → checkH h order = h.length := fun q => by
          rw [hck, hend, if_neg]
          intro q2
          have := List.all_eq_true.1 q2 _ (getD_mem hjl)
          rw [show order.getD j default = order.getD j 0 from rfl, q] at this
          cases this
        have hno : (decide (order.getD j 0 = 0) || inH h (order.getD j 0)) = true → ∀ t ∈ order.take (j + 1), (decide (t = 0) || inH h t) = true := fun q => all_step hjl hall q
        have hg2 : order.getD j default = order.getD j 0 := rfl
        unfold inH at hyes hno
        generalize hg3 : order.getD j 0 = t at *
        cases hfi : h.findIdx? (isAsk t) with
        | none =>
          rw [hfi] at hlook hyes hno
          repeat' (first | (with_reducible apply St.o; constructor) <;> intro _ | (with_reducible first | refine LenR_i fun _ => ?_ | refine And.intro (by omega) ?_ | (apply Sp.o; constructor) | refine mkl_own ?_ | refine frz0_i ?_) | simp (maxSteps := 1000000) (disch := omega) only [lE,ptrCells,ptrAdd,isNil,readsV,readsP,isCall,wrote,srcOf,seval,IdxR_int,hg2,hg3,Int.toNat_natCast,List.length_map,hlook,Option.map_none])
          all_goals first
            | (exfalso; omega)
            | exact keep_n (hyes (by simp [*])).symm
            | exact back_i (j + 1) ⟨by omega,hno (by simp [*])⟩ (by omega) (Ent.to [0, 1, 2, 3, 4] false (by simp) (by simp) rfl (by simp only [lP,seval,pa_kM,pa_vI] <;> (try simp) <;> (try omega)) (by simp only [lP,seval,pa_kM,pa_vI] <;> (try simp) <;> (try omega)))
        | some k0 =>
          rw [hfi] at hlook hyes hno
          repeat' (first | (with_reducible apply St.o; constructor) <;> intro _ | (with_reducible first | refine LenR_i fun _ => ?_ | refine And.intro (by omega) ?_ | (apply Sp.o; constructor) | refine mkl_own ?_ | refine frz0_i ?_) | simp (maxSteps := 1000000) (disch := omega) only [lE,ptrCells,ptrAdd,isNil,readsV,readsP,isCall,wrote,srcOf,seval,IdxR_int,hg2,hg3,Int.toNat_natCast,List.length_map,hlook,Option.map_some])
          all_goals first
            | (exfalso; omega)
            | exact back_i (j + 1) ⟨by omega,hno (by simp [*])⟩ (by omega) (Ent.to [0, 1, 2, 3, 4] false (by simp) (by simp) rfl (by simp only [lP,seval,pa_kM,pa_vI] <;> (try simp) <;> (try omega)) (by simp only [lP,seval,pa_kM,pa_vI] <;> (try simp) <;> (try omega)))
      · have hje : j = order.length := by omega
        subst hje
        rw [List.take_length] at hall
        repeat' (first | (with_reducible apply St.o; constructor) <;> intro _ | (with_reducible first | refine LenR_i fun _ => ?_ | refine And.intro (by omega) ?_ | (apply Sp.o; constructor) | refine mkl_own ?_ | refine frz0_i ?_) | simp (maxSteps := 1000000) (disch := omega) only [lE,ptrCells,ptrAdd,isNil,readsV,readsP,isCall,wrote,srcOf,seval,List.length_map,Int.lt_irrefl,decide_false])
        refine keep_n ?_
        rw [hck, hend, if_pos (List.all_eq_true.2 hall)]
    · rename_i g1
      refine keep_n ?_
      rw [hck, hend, decide_eq_false g1]
      simp
end Go.Proofs.Try


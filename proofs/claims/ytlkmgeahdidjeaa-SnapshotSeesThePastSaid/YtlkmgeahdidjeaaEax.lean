/-
  A part of the proof: see the text of the law.
-/
import Derived.Test.YtlkmgeahdidjeaaEaw
set_option linter.unusedSimpArgs false
set_option linter.unusedVariables false
namespace Go.Proofs.Try
open Go.Al
set_option maxRecDepth 100000
/-- alum/snapshot.Trim -/
def mc26 : MC :=
 (.seq (.ops [(none, (.v (.mov 4 (.c (.raw (.slice none 0 0))))))])
 (.seq (.ops [(none, (.v (.mov 16 (.t 1)))),
 (none, (.e (.call (some 17) 39 [(.t 16)]))),
 (none, (.v (.mov 18 (.t 0)))),
 (none, (.e (.call (some 19) 15 [(.t 18)]))),
 (none, (.e (.mkl 20 3 1 1 (.int .i64 0) [(0, (.t 19))]))),
 (none, (.e (.app 21 3 1 8 (.t 17) (.t 20)))),
 (none, (.e (.alloc 5 [(.raw (.slice none 0 0))]))),
 (none, (.e (.store 1 false (.t 5) (.t 21))))])
 (.seq (.ops [(none, (.e (.alloc 6 [(.raw (.slice none 0 0))])))])
 (.seq (.seq (.ops [(none, (.v (.mov 22 (.t 0)))),
 (none, (.e (.call (some 23) 35 [(.t 22)])))])
 (.block 0 (.rngf (.t 23) #[24] (.ops [(none, (.v (.mov 7 (.t 24))))]) (.block 1 (.seq (.ops [(none, (.v (.mov 25 (.t 7)))),
 (none, (.p (.len 26 (.t 25)))),
 (none, (.e (.mk 27 4 1 1 (.bool false) (.t 26) (.t 26)))),
 (none, (.v (.mov 8 (.t 27))))])
 (.seq (.seq (.ops [(none, (.v (.load 28 false 1 (.t 5)))),
 (none, (.p (.len 29 (.t 28)))),
 (none, (.v (.mov 30 (.c (.int .i64 0)))))])
 (.block 2 (.loop (.seq (.ops [(none, (.v (.bin 31 .lss false (.t 30) (.t 29))))])
 (.seq (.cond 31
 .skip
 (.exit 2))
 (.seq (.block 3 (.seq (.ops [(none, (.p (.idx 32 1 (.t 28) (.t 30)))),
 (none, (.v (.load 33 false 1 (.t 32)))),
 (none, (.v (.mov 10 (.t 33))))])
 (.seq (.ops [(none, (.v (.mov 34 (.t 7)))),
 (none, (.v (.mov 35 (.t 10)))),
 (none, (.e (.call (some 36) 36 [(.t 34), (.t 35)]))),
 (none, (.v (.mov 11 (.t 36))))])
 (.seq (.ops [(none, (.v (.mov 37 (.t 11)))),
 (none, (.v (.bin 38 .geq false (.t 37) (.c (.int .i64 0)))))])
 (.cond 38
 (.ops [(none, (.v (.mov 39 (.t 8)))),
 (none, (.v (.mov 40 (.t 11)))),
 (none, (.p (.idx 41 1 (.t 39) (.t 40)))),
 (none, (.e (.store 1 false (.t 41) (.c (.bool true)))))])
 .skip)))))
 (.ops [(none, (.v (.bin 42 .add false (.t 30) (.c (.int .i64 1))))),
 (none, (.v (.mov 30 (.t 42))))])))))))
 (.seq (.any false (.pure0 none (.v (.load 43 false 1 (.t 6)))
 (.pure0 none (.p (.len 44 (.t 43)))
 (.pure0 none (.v (.mov 12 (.c (.bool false))))
 (.pure0 none (.v (.mov 13 (.t 44)))
 .done)))))
 (.seq (.ops [(none, (.v (.mov 45 (.t 7)))),
 (none, (.p (.len 46 (.t 45)))),
 (none, (.v (.mov 47 (.c (.int .i64 0)))))])
 (.block 4 (.loop (.seq (.ops [(none, (.v (.bin 48 .lss false (.t 47) (.t 46))))])
 (.seq (.cond 48
 .skip
 (.exit 4))
 (.seq (.block 5 (.seq (.ops [(none, (.v (.mov 49 (.t 47)))),
 (none, (.p (.idx 50 4 (.t 45) (.t 47)))),
 (none, (.v (.load 51 true 4 (.t 50)))),
 (none, (.e (.alloc 15 [(.int .i64 0), (.int .i64 0), (.bool false), (.raw (.slice none 0 0))]))),
 (none, (.v (.mov 14 (.t 49)))),
 (none, (.e (.store 4 true (.t 15) (.t 51))))])
 (.seq (.ops [(none, (.v (.mov 52 (.t 8)))),
 (none, (.v (.mov 53 (.t 14)))),
 (none, (.p (.idx 54 1 (.t 52) (.t 53)))),
 (none, (.v (.load 55 false 1 (.t 54)))),
 (none, (.v (.mov 56 (.t 55)))),
 ((some (56, true)), (.v (.mov 57 (.t 12)))),
 ((some (56, true)), (.v (.mov 58 (.t 57)))),
 ((some (58, false)), (.v (.fld 59 2 (.t 15)))),
 ((some (58, false)), (.v (.load 60 false 1 (.t 59)))),
 ((some (58, false)), (.v (.not 61 (.t 60)))),
 ((some (56, true)), (.v (.pick 62 (.t 58) (.c (.bool true)) (.t 61)))),
 ((some (56, true)), (.v (.mov 63 (.t 62)))),
 ((some (63, false)), (.v (.mov 64 (.t 14)))),
 ((some (63, false)), (.v (.mov 65 (.t 7)))),
 ((some (63, false)), (.p (.len 66 (.t 65)))),
 ((some (63, false)), (.v (.bin 67 .sub false (.t 66) (.c (.int .i64 1))))),
 ((some (63, false)), (.v (.bin 68 .eql false (.t 64) (.t 67)))),
 ((some (63, false)), (.v (.mov 69 (.t 68)))),
 ((some (69, true)), (.v (.load 70 false 1 (.t 6)))),
 ((some (69, true)), (.p (.len 71 (.t 70)))),
 ((some (69, true)), (.v (.mov 72 (.t 13)))),
 ((some (69, true)), (.v (.bin 73 .gtr false (.t 71) (.t 72)))),
 ((some (63, false)), (.v (.pick 74 (.t 69) (.t 73) (.c (.bool false))))),
 ((some (56, true)), (.v (.pick 75 (.t 63) (.c (.bool true)) (.t 74)))),
 (none, (.v (.pick 76 (.t 56) (.t 75) (.c (.bool false)))))])
 (.cond 76
 (.seq (.ops [(none, (.v (.load 77 false 1 (.t 6)))),
 (none, (.v (.load 78 true 4 (.t 15)))),
 (none, (.e (.mkl 79 29 4 1 (.agg [(.int .i64 0), (.int .i64 0), (.bool false), (.raw (.slice none 0 0))]) [(0, (.t 78))]))),
 (none, (.e (.app 80 29 4 48 (.t 77) (.t 79)))),
 (none, (.e (.store 1 false (.t 6) (.t 80))))])
 (.ops [(none, (.v (.fld 81 2 (.t 15)))),
 (none, (.v (.load 82 false 1 (.t 81)))),
 (none, (.v (.not 83 (.t 82)))),
 (none, (.v (.mov 12 (.t 83))))]))
 .skip))))
 (.ops [(none, (.v (.bin 84 .add false (.t 47) (.c (.int .i64 1))))),
 (none, (.v (.mov 47 (.t 84))))]))))))))))))))
 (.seq (.ops [(none, (.v (.load 85 false 1 (.t 6)))),
 (none, (.v (.mov 4 (.t 85))))])
 .ret)))))
theorem ok26 : FnOk E 26 86 [.tmp 4] mc26 := .of func26 (by kernel_rfl) (by kernel_rfl) (by kernel_rfl) (by kernel_rfl) (by kernel_rfl)
end Go.Proofs.Try
namespace Go.Proofs.Try
open Go.Al
set_option linter.unusedVariables false
set_option linter.unusedSimpArgs false
set_option maxRecDepth 20000
set_option maxHeartbeats 8000000

/-- What the snapshots see among the versions of one row; what Trim keeps of them. -/
def seenG (g : List Ver) (ss : List Int) (j : Nat) : Bool := ss.any fun s => decide (seesS g s = j)
def trimSt (g : List Ver) (ss : List Int) (x : List Ver) : Nat → List Ver × Bool
  | 0 => (x, false)
  | j + 1 => if seenG g ss j = true ∧ ((trimSt g ss x j).2 = true ∨ (g.getD j default).dead = false ∨ (j + 1 = g.length ∧ x.length < (trimSt g ss x j).1.length))
      then ((trimSt g ss x j).1 ++ [g.getD j default], !(g.getD j default).dead) else trimSt g ss x j
def trimF (ss : List Int) (x : List Ver) (g : List Ver) : List Ver := (trimSt g ss x g.length).1
def snapTrim (l : List Ver) (snaps : List Int) : List Ver := (groups (ordered l)).foldl (trimF (snaps ++ [last l])) []
theorem trimSt_le (g : List Ver) (ss : List Int) (x : List Ver) : ∀ j, (trimSt g ss x j).1.length ≤ x.length + j
  | 0 => by simp [trimSt]
  | j + 1 => by
    have := trimSt_le g ss x j
    simp only [trimSt]
    split
    · simp only [List.length_append, List.length_cons, List.length_nil]; omega
    · omega
theorem trimSt_ge (g : List Ver) (ss : List Int) (x : List Ver) : ∀ j, x.length ≤ (trimSt g ss x j).1.length
  | 0 => by simp [trimSt]
  | j + 1 => by
    have := trimSt_ge g ss x j
    simp only [trimSt]
    split
    · simp only [List.length_append, List.length_cons, List.length_nil]; omega
    · omega
def flags (g : List Ver) (ss : List Int) : List Bool := (List.range g.length).map (seenG g ss)
theorem flags_len (g : List Ver) (ss : List Int) : (flags g ss).length = g.length := by simp [flags]
theorem flags_none (g : List Ver) : flags g [] = List.replicate g.length false := by
  refine List.ext_getElem (by simp [flags]) fun i h1 h2 => ?_
  simp [flags, seenG]
theorem flags_next {g : List Ver} {ss : List Int} {s : Int} (h : 0 ≤ seesS g s) : flags g (ss ++ [s]) = (flags g ss).set (seesS g s).toNat true := by
  refine List.ext_getElem (by simp [flags]) fun i h1 h2 => ?_
  rw [List.getElem_set]
  simp only [flags, List.getElem_map, List.getElem_range, seenG, List.any_append, List.any_cons, List.any_nil, Bool.or_false]
  split
  · rename_i hi
    rw [decide_eq_true (by omega), Bool.or_true]
  · rename_i hi
    rw [decide_eq_false (by omega), Bool.or_false]
theorem flags_skip {g : List Ver} {ss : List Int} {s : Int} (h : ¬ 0 ≤ seesS g s) : flags g (ss ++ [s]) = flags g ss := by
  refine List.map_congr_left fun i hi => ?_
  simp only [seenG, List.any_append, List.any_cons, List.any_nil, Bool.or_false]
  rw [decide_eq_false (by omega), Bool.or_false]
theorem flags_get {g : List Ver} {ss : List Int} {j : Nat} (h : j < g.length) : (flags g ss).getD j false = seenG g ss j := by
  simp [flags, h]

theorem trim_no {sb live dead : Bool} {p q : Prop} (h : sb = (!true) ∨ (live = false ∧ (!dead) = false ∧ (¬p ∨ ¬q))) : ¬ (sb = true ∧ (live = true ∨ dead = false ∨ (p ∧ q))) := by
  rintro ⟨h1, h2⟩
  rcases h with h | ⟨h3, h4, h5⟩
  · rw [h1] at h; cases h
  · rcases h2 with h2 | h2 | ⟨h2, h6⟩
    · rw [h2] at h3; cases h3
    · rw [h2] at h4; cases h4
    · exact h5.elim (fun h => h h2) (fun h => h h6)
theorem trim_yes {sb live dead : Bool} {p q : Prop} (h : sb = true) (h2 : live = (!false) ∨ (!dead) = (!false) ∨ (p ∧ q)) : sb = true ∧ (live = true ∨ dead = false ∨ (p ∧ q)) := by
  refine ⟨h, ?_⟩
  rcases h2 with h2 | h2 | h2
  · exact .inl h2
  · refine .inr (.inl ?_)
    cases dead
    · rfl
    · cases h2
  · exact .inr (.inr h2)
theorem stE_bools {P : Program} {m : Nat} {N : FN} {fr : List (Nat × AV)} {H : List AObj} {q : Ke} {xs : List Bool} {b : Bool} {size id sz sz' n off : Nat} {E' : TypeId} {cs : List AV} (hn : n < xs.length) :
    stE P m N (some (.arr E' sz' (xs.map AV.bool))) size cs (.bool b) id sz n off fr H q = (sz = sz' ∧ cs.length = size ∧ size = 1 ∧ off = 0 ∧ sz = 1 ∧ rE P m N q fr (H.set id (.arr E' sz' ((xs.set n b).map AV.bool)))) := by
  rw [stE_flat (fun _ => trivial) hn, List.map_set]
set_option maxHeartbeats 16000000 in
theorem c26 (l : List Ver) (snaps : List Int) (hd : diff l) (hc : l.length ≤ 1000000) (hs : snaps.length ≤ 40000) : ACalls E.P 26 [.view 4 (l.map Ver.av), .view 1 (snaps.map (AV.int .i64))] [] (fun r H => r = .view 4 ((snapTrim l snaps).map Ver.av) ∧ H = []) := by
  have hmax := maxLen_eq
  have h35 := c35 l
  have h39 := c39o snaps (by omega)
  have h15 := c15 l
  refine ok26.acalls hE hm (by simp) fun N hN => ?_
  unfold mc26
  simp only [lA, ptrCells, ptrAdd, isNil, readsV, readsP, isCall, wrote, srcOf, seval]
  repeat' (first
   | (with_reducible apply St.o; constructor) <;> intro _
   | with_reducible first | refine LenR_i fun _ => ?_ | refine And.intro (by omega) ?_ | (apply Sp.o; constructor) | refine mkl_own ?_ | refine frz0_i ?_
   | ((with_reducible apply Sc.o true; constructor); simp only [lP, seval]; refine ⟨_, h15, ?_⟩; rintro _ _ ⟨rfl, rfl⟩; simp only [lA, lP, ptrCells, ptrAdd, isNil, readsV, readsP, isCall, wrote, srcOf, seval])
   | ((with_reducible apply Sc.o false; constructor); simp only [lP, seval]; (first | refine ⟨_, h39, ?_⟩ | refine ⟨_, h35, ?_⟩); rintro _ _ ⟨rfl, rfl⟩; simp only [lA, lP, ptrCells, ptrAdd, isNil, readsV, readsP, isCall, wrote, srcOf, seval])
   | simp (maxSteps := 1000000) (disch := omega) only [lE, ptrCells, ptrAdd, isNil, readsV, readsP, isCall, wrote, srcOf, seval])
  have hss1 : (snaps.map (AV.int .i64)) ++ [AV.int .i64 (last l)] = (snaps ++ [last l]).map (AV.int .i64) := by simp
  have hss2 : snaps.length + 1 = (snaps ++ [last l]).length := by simp
  rw [hss1, hss2]
  have hssl : (snaps ++ [last l]).length ≤ 40001 := by simp; omega
  have hout : snapTrim l snaps = (groups (ordered l)).foldl (trimF (snaps ++ [last l])) [] := rfl
  generalize snaps ++ [last l] = ss at *
  clear hss1 hss2
  refine rng_i hN [(5, .op 3 0), (6, .op 4 0)] (by simp [FrSub, Go.Al.get]) fun fn cas bd hy => ?_
  let lo : LoopState → AObj := fun st => .loop st none [(5, .op 3 0), (6, .op 4 0)] N.n fn #[24] cas bd
  let F : List AObj := [.dead, .arr 3 1 [.int .i64 (last l)], .arr 3 1 (ss.map (AV.int .i64)), .box [.slc 2 1 ss.length], .dead, lo .ready]
  have hY : ∀ (x : List Ver) (g : List Ver) (k : Nat) (G : Nat → Prop) (H : List AObj), g ∈ groups (ordered l) → x.length + (k + 1) * 1000000 ≤ 1000000000000 → colW Ver.av 29 4 F 4 x G H → AYield E.P 5 [.view 4 (g.map Ver.av)] H (fun r H' => r = .bool true ∧ Bhd (colW Ver.av 29 4 F 4) (trimF ss x g) G H H') := by
    rintro x g k G H hgm hk hS
    have h5 : H[5]? = some (lo .ready) := hS.1 5 (by simp [F]) (by omega)
    refine hy 5 [(5, .op 3 0), (6, .op 4 0)] [.view 4 (g.map Ver.av)] H _ h5 rfl fun N2 hN2 => ?_
    simp only [lA, ptrCells, ptrAdd, isNil, readsV, readsP, isCall, wrote, srcOf, seval, get_last, set_last]
    refine ⟨h5, ?_⟩
    obtain ⟨H1, hH1⟩ : ∃ H1, H1 = H.set 5 (.loop .busy none [(5, .op 3 0), (6, .op 4 0)] N.n fn #[24] cas bd) := ⟨_, rfl⟩
    rw [← hH1]
    have hSb : colW Ver.av 29 4 (F.set 5 (lo .busy)) 4 x G H1 := by rw [hH1]; exact colW_put (lo .busy) hS (n := 5) (by simp [F]) (by omega)
    have hback : ∀ H', Bhd (colW Ver.av 29 4 (F.set 5 (lo .busy)) 4) (trimF ss x g) G H1 H' → Bhd (colW Ver.av 29 4 F 4) (trimF ss x g) G H (H'.set 5 (lo .ready)) := fun H' h => colW_back (lo .ready) (lo .busy) ⟨x, hS⟩ (by rw [hH1] at h; exact h) (by simp [F]) (by omega) rfl
    clear hH1
    have hgl : g.length ≤ 1000000 := by
      have := ((groups_spec _ _ (Nat.le_refl _)).2 g hgm).2.1.length_le
      rw [ordered_length] at this; omega
    have hasc := groups_asc (ordered_srtd l) (diff_perm hd (ordered_perm l)) hgm
    have hFb : F.set 5 (lo .busy) = [.dead, .arr 3 1 [.int .i64 (last l)], .arr 3 1 (ss.map (AV.int .i64)), .box [.slc 2 1 ss.length], .dead, lo .busy] := rfl
    generalize F.set 5 (lo .busy) = Fb at *
    have hfx : ∀ y G' H', colW Ver.av 29 4 Fb 4 y G' H' → 6 ≤ H'.length ∧ H'[2]? = some (.arr 3 1 (ss.map (AV.int .i64))) ∧ H'[3]? = some (.box [.slc 2 1 ss.length]) ∧ H'[5]? = some (lo .busy) := fun y G' H' h => by
      obtain ⟨h0, _, _, h3, _⟩ := h
      rw [hFb] at h0 h3
      exact ⟨h3, h0 2 (by simp) (by omega), h0 3 (by simp) (by omega), h0 5 (by simp) (by omega)⟩
    obtain ⟨f0, f2, f3, f5⟩ := hfx _ _ _ hSb
    have g2 : ∀ o, (H1 ++ [o])[2]? = some (.arr 3 1 (ss.map (AV.int .i64))) := fun o => by rw [at_app _ _ 2 (by omega)]; exact f2
    have g3 : ∀ o, (H1 ++ [o])[3]? = some (.box [.slc 2 1 ss.length]) := fun o => by rw [at_app _ _ 3 (by omega)]; exact f3
    repeat' (first
     | (with_reducible apply St.o; constructor) <;> intro _
     | with_reducible first | refine LenR_i fun _ => ?_ | refine And.intro (by omega) ?_ | (apply Sp.o; constructor) | refine mkl_own ?_ | refine frz0_i ?_
     | simp (maxSteps := 1000000) (disch := omega) only [lE, ptrCells, ptrAdd, isNil, readsV, readsP, isCall, wrote, srcOf, seval, g2, g3, get_last, set_last, List.length_map])
    have hfl0 : List.replicate g.length (AV.bool false) = (flags g (ss.take 0)).map AV.bool := by rw [List.take_zero, flags_none, List.map_replicate]
    rw [hfl0]
    refine loop_i (fun i : Nat => i ≤ ss.length) (fun i => ⟨[(5, .op 3 0), (6, .op 4 0), (7, .view 4 (g.map Ver.av)), (8, .slc H1.length 1 g.length), (28, .slc 2 1 ss.length), (29, .int .i64 ss.length), (30, .int .i64 i)], H1 ++ [.arr 4 1 ((flags g (ss.take i)).map AV.bool)]⟩) (fun i => ss.length - i) 0 (by omega) (Ent.fr (by simp [FrSub, Go.Al.get])) ?_
    intro i hi
    have h36 := fun n => atAny (by simp [scL, sc]) (c36 g (ss.getD i 0) hasc (by omega)) (H1 ++ [.arr 4 1 ((flags g (ss.take n)).map AV.bool)])
    have hfl := flags_len g (ss.take i)
    obtain ⟨s1, s2⟩ := seesS_lt g (ss.getD i 0)
    by_cases hil : i < ss.length
    · have hx : (ss.map (AV.int .i64))[i]? = some (.int .i64 (ss.getD i 0)) := by simp [hil]
      have hlt : ((i : Int) < ss.length) = True := by simp; omega
      repeat' (first
       | (with_reducible apply St.o; constructor) <;> intro _
       | with_reducible first | refine LenR_i fun _ => ?_ | refine And.intro (by omega) ?_ | (apply Sp.o; constructor) | refine mkl_own ?_ | refine frz0_i ?_
       | simp (maxSteps := 1000000) (disch := omega) only [lE, ptrCells, ptrAdd, isNil, readsV, readsP, isCall, wrote, srcOf, seval, g2, g3, epR_map, hx, hlt, decide_true, get_last, set_last, List.length_map, hfl, Int.toNat_natCast])
      refine ACalls.mono (h36 i) ?_
      rintro _ H2 ⟨rfl, hH2⟩
      replace hH2 := hH2.symm
      subst hH2
      simp only [lA, ptrCells, ptrAdd, isNil, readsV, readsP, isCall, wrote, srcOf, seval]
      have htk := take_succD hil
      have hfp := flags_next (g := g) (ss := ss.take i) (s := ss.getD i 0)
      have hfn := flags_skip (g := g) (ss := ss.take i) (s := ss.getD i 0)
      rw [show ss.take i ++ [ss.getD i 0] = ss.take (i + 1) from htk.symm] at hfp hfn
      generalize seesS g (ss.getD i 0) = p at *
      repeat' (first
       | (with_reducible apply St.o; constructor) <;> intro _
       | with_reducible first | refine LenR_i fun _ => ?_ | refine And.intro (by omega) ?_ | (apply Sp.o; constructor) | refine mkl_own ?_ | refine frz0_i ?_
       | simp (maxSteps := 1000000) (disch := omega) only [lE, ptrCells, ptrAdd, isNil, readsV, readsP, isCall, wrote, srcOf, seval, g2, g3, epR_map, stE_bools, get_last, set_last, List.length_map, hfl, Int.toNat_natCast])
      · rename_i q
        rw [← hfp q]
        exact back_i (i + 1) (by omega) (by omega) (Ent.fr (by simp [FrSub, Go.Al.get]))
      · rename_i q
        rw [← hfn q]
        exact back_i (i + 1) (by omega) (by omega) (Ent.fr (by simp [FrSub, Go.Al.get]))
    · have hlt : ((ss.length : Int) < ss.length) = False := by simp
      have hie : i = ss.length := by omega
      rw [hie, List.take_length]
      obtain ⟨ov, f4, hov⟩ : ∃ ov, H1[4]? = some (.box [ov]) ∧ ∀ P m N d c, lenR P m N (H1 ++ [.arr 4 1 ((flags g ss).map AV.bool)]) d ov c = rK P m N c d (.int .i64 x.length) := by
        rcases hSb.2.2.2.2 with ⟨hx0, h4⟩ | ⟨a, a1, a2, a3, a4, a5⟩
        · exact ⟨_, h4, fun P m N d c => by rw [lenR_nil, hx0]; rfl⟩
        · refine ⟨_, a4, fun P m N d c => ?_⟩
          rw [lenR_slc, at_app _ _ a a2, a5, lenO_arr, LenR_ok (by omega)]
      have g4 : ∀ o, (H1 ++ [o])[4]? = some (.box [ov]) := fun o => by rw [at_app _ _ 4 (by omega)]; exact f4
      repeat' (first
       | (with_reducible apply St.o; constructor) <;> intro _
       | with_reducible first | refine LenR_i fun _ => ?_ | refine And.intro (by omega) ?_ | (apply Sp.o; constructor) | refine mkl_own ?_ | refine frz0_i ?_
       | simp (maxSteps := 1000000) (disch := omega) only [lE, ptrCells, ptrAdd, isNil, readsV, readsP, isCall, wrote, srcOf, seval, g2, g3, g4, hov, epR_map, hlt, decide_false, get_last, set_last, List.length_map, hfl])
      clear hov g4 f4
      have hGp : ∀ i, (G i ∨ i = H1.length) → 6 ≤ i := fun i hi => by
        rcases hi with hi | rfl
        · have := (hSb.2.1 i hi).1; rw [hFb] at this; exact this
        · exact f0
      have hS0 := (colW_grows (av := Ver.av) (E := 29) (sz := 4) Fb 4).push x G H1 (.arr 4 1 ((flags g ss).map AV.bool)) hSb
      have hb0 : (H1 ++ [AObj.arr 4 1 ((flags g ss).map AV.bool)])[H1.length]? = some (.arr 4 1 ((flags g ss).map AV.bool)) := get_last
      have hfl := flags_len g ss
      have hbl : Bhd (colW Ver.av 29 4 Fb 4) x G H1 (H1 ++ [AObj.arr 4 1 ((flags g ss).map AV.bool)]) := (colW_grows Fb 4).skip hSb
      have hbl' : ∀ {y : List Ver} {H2 : List AObj}, Bhd (colW Ver.av 29 4 Fb 4) y (fun i => G i ∨ i = H1.length) (H1 ++ [AObj.arr 4 1 ((flags g ss).map AV.bool)]) H2 → Bhd (colW Ver.av 29 4 Fb 4) y G H1 H2 := fun h => ((colW_grows Fb 4).own hSb h).1
      generalize H1.length = b at *
      generalize hH0 : H1 ++ [AObj.arr 4 1 ((flags g ss).map AV.bool)] = H0 at *
      refine loop_i (fun p : Nat × List Ver × Bool × List AObj => p.1 ≤ g.length ∧ trimSt g ss x p.1 = (p.2.1, p.2.2.1) ∧ Bhd (colW Ver.av 29 4 Fb 4) p.2.1 (fun i => G i ∨ i = b) H0 p.2.2.2)
        (fun p => ⟨[(5, .op 3 0), (6, .op 4 0), (7, .view 4 (g.map Ver.av)), (8, .slc b 1 g.length), (12, .bool p.2.2.1), (13, .int .i64 x.length), (45, .view 4 (g.map Ver.av)), (46, .int .i64 g.length), (47, .int .i64 p.1)], p.2.2.2⟩) (fun p => g.length - p.1) (0, x, false, H0) ⟨by simp, rfl, .self hS0⟩ (Ent.fr (by simp [FrSub, Go.Al.get])) ?_
      rintro ⟨j, y, live, H2⟩ ⟨hj, hst, hb2⟩
      simp only at hj hst hb2
      have hyl := trimSt_le g ss x j
      have hxy := trimSt_ge g ss x j
      rw [hst] at hyl hxy
      simp only at hyl hxy
      obtain ⟨e0, e2, e3, e5⟩ := hfx _ _ _ hb2.1
      have hB : H2[b]? = some (.arr 4 1 ((flags g ss).map AV.bool)) := by rw [hb2.2.2 b (.inr rfl)]; exact hb0
      by_cases hjl : j < g.length
      · have hlt : ((j : Int) < g.length) = True := by simp; omega
        have hnx : trimSt g ss x (j + 1) = if seenG g ss j = true ∧ (live = true ∨ (g.getD j default).dead = false ∨ (j + 1 = g.length ∧ x.length < y.length)) then (y ++ [g.getD j default], !(g.getD j default).dead) else (y, live) := by
          simp only [trimSt, hst]
        have hsb : ((flags g ss).map AV.bool)[j]? = some (.bool (seenG g ss j)) := by
          have := flags_get (ss := ss) hjl
          simp [hfl, hjl] at this ⊢
          exact this
        generalize seenG g ss j = sb at *
        generalize hv : g.getD j default = v at *
        have hB1 : ∀ o, (H2 ++ [o])[b]? = some (.arr 4 1 ((flags g ss).map AV.bool)) := fun o => by rw [at_app _ _ b ((colW_grows Fb 4).lt _ _ _ _ hb2.1 (.inr rfl))]; exact hB
        have hsk : ∀ o, Bhd (colW Ver.av 29 4 Fb 4) y (fun i => G i ∨ i = b) H2 (H2 ++ [o]) := fun o => (colW_grows Fb 4).skip hb2.1
        rcases hb2.1.2.2.2.2 with ⟨hx0, h4⟩ | ⟨a, a1, a2, a3, a4, a5⟩
        · have g4 : ∀ o, (H2 ++ [o])[4]? = some (.box [.raw (.slice none 0 0)]) := fun o => by rw [at_app _ _ 4 (by omega)]; exact h4
          have g4' : ∀ o o', (H2 ++ [o] ++ [o'])[4]? = some (.box [.raw (.slice none 0 0)]) := fun o o' => by rw [at_app _ _ 4 (by simp; omega)]; exact g4 o
          have g4'' : ∀ o o' o'', (H2 ++ [o] ++ [o'] ++ [o''])[4]? = some (.box [.raw (.slice none 0 0)]) := fun o o' o'' => by rw [at_app _ _ 4 (by simp; omega)]; exact g4' o o'
          have hx00 : ((x.length : Int) < 0) = False := by
            rw [hx0] at hxy
            simp at hxy ⊢
            first | done | omega
          have hx01 : ¬ x.length < y.length := by rw [hx0]; simp
          have gv : ∀ o o' o'' q, ((H2 ++ [o] ++ [o'] ++ [o'']).set 4 q)[H2.length]? = some o := fun o o' o'' q => by rw [at_set _ _ 4 _ (by omega), at_app _ _ _ (by simp), at_app _ _ _ (by simp)]; exact get_last
          repeat' (first
           | (with_reducible apply St.o; constructor) <;> intro _
           | with_reducible first | refine LenR_i fun _ => ?_ | refine And.intro (by omega) ?_ | (apply Sp.o; constructor) | refine mkl_own ?_ | refine frz0_i ?_
           | simp (maxSteps := 1000000) (disch := omega) only [lE, ptrCells, ptrAdd, isNil, readsV, readsP, isCall, wrote, srcOf, seval, g4, g4', g4'', gv, hv, hx00, hB1, epR_map, hsb, hlt, decide_true, IdxR_vers, Int.toNat_natCast, get_last, set_last, List.length_map, hfl, fillE, setAll, List.length_cons, List.length_nil])
          all_goals try (
            refine back_i (j + 1, y, live, _) ⟨by simp only; omega, by
              rw [hnx, if_neg (trim_no ?_)]
              first
              | (refine .inl ?_; assumption)
              | (refine .inr ⟨?_, ?_, .inl ?_⟩ <;> first | assumption | omega)
              | (refine .inr ⟨?_, ?_, .inr ?_⟩ <;> first | assumption | omega), hb2.trans (hsk _)⟩ (by simp only; omega) (Ent.fr (by simp [FrSub, Go.Al.get])))
          all_goals subst hx0
          all_goals (
            have hn := colW_one (av := Ver.av) (E := 29) (sz := 4) v (.arr 29 4 [v.av]) (hsk (.box v.cs)).1
            simp only [List.length_append, List.length_cons, List.length_nil, Nat.zero_add, List.length_set] at hn ⊢
            refine back_i (j + 1, [] ++ [v], !v.dead, _) ⟨by simp only; omega, by
              rw [hnx, if_pos (trim_yes (by assumption) ?_)]
              first
              | (refine .inl ?_; assumption)
              | (refine .inr (.inl ?_); assumption)
              | (refine .inr (.inr ⟨?_, ?_⟩) <;> omega), hb2.trans ((hsk _).trans hn)⟩ (by simp only; omega) (Ent.fr (by simp [FrSub, Go.Al.get])))
        · have hla := a2
          have g4 : ∀ o, (H2 ++ [o])[4]? = some (.box [.slc a 4 y.length]) := fun o => by rw [at_app _ _ 4 (by omega)]; exact a4
          have ga1 : ∀ o, (H2 ++ [o])[a]? = some (.arr 29 4 (y.map Ver.av)) := fun o => by rw [at_app _ _ a (by omega)]; exact a5
          have ga : ∀ o o', (H2 ++ [o] ++ [o'])[a]? = some (.arr 29 4 (y.map Ver.av)) := fun o o' => by rw [at_app _ _ a (by simp; omega)]; exact ga1 o
          have g4'' : ∀ o o' o'', ((H2 ++ [o] ++ [o']).set a .dead ++ [o''])[4]? = some (.box [.slc a 4 y.length]) := fun o o' o'' => by
            have : 6 ≤ a := by rw [hFb] at a1; exact a1
            rw [at_app _ _ 4 (by simp; omega), at_set _ _ a 4 (by omega), at_app _ _ 4 (by simp; omega)]; exact g4 o
          have gv : ∀ o o' o'' q, (((H2 ++ [o] ++ [o']).set a .dead ++ [o'']).set 4 q)[H2.length]? = some o := fun o o' o'' q => by
            rw [at_set _ _ 4 _ (by omega), at_app _ _ _ (by simp), at_set _ _ a _ (by omega), at_app _ _ _ (by simp)]; exact get_last
          repeat' (first
           | (with_reducible apply St.o; constructor) <;> intro _
           | with_reducible first | refine LenR_i fun _ => ?_ | refine And.intro (by omega) ?_ | (apply Sp.o; constructor) | refine mkl_own ?_ | refine frz0_i ?_
           | simp (maxSteps := 1000000) (disch := omega) only [lE, ptrCells, ptrAdd, isNil, readsV, readsP, isCall, wrote, srcOf, seval, g4, g4'', ga, ga1, gv, hv, hB1, epR_map, hsb, hlt, decide_true, IdxR_vers, Int.toNat_natCast, get_last, set_last, List.length_map, hfl, fillE, setAll, List.length_cons, List.length_nil])
          all_goals try (
            refine back_i (j + 1, y, live, _) ⟨by simp only; omega, by
              rw [hnx, if_neg (trim_no ?_)]
              first
              | (refine .inl ?_; assumption)
              | (refine .inr ⟨?_, ?_, .inl ?_⟩ <;> first | assumption | omega)
              | (refine .inr ⟨?_, ?_, .inr ?_⟩ <;> first | assumption | omega), hb2.trans (hsk _)⟩ (by simp only; omega) (Ent.fr (by simp [FrSub, Go.Al.get])))
          all_goals (
            have hn := colW_snoc (av := Ver.av) (E := 29) (sz := 4) v (.arr 29 4 [v.av]) (hsk (.box v.cs)).1 a1 (by simp <;> omega) a3
            simp only [List.length_append, List.length_cons, List.length_nil, Nat.zero_add, List.length_set] at hn ⊢
            refine back_i (j + 1, y ++ [v], !v.dead, _) ⟨by simp only; omega, by
              rw [hnx, if_pos (trim_yes (by assumption) ?_)]
              first
              | (refine .inl ?_; assumption)
              | (refine .inr (.inl ?_); assumption)
              | (refine .inr (.inr ⟨?_, ?_⟩) <;> omega), hb2.trans ((hsk _).trans hn)⟩ (by simp only; omega) (Ent.fr (by simp [FrSub, Go.Al.get])))
      · have hlt : ((j : Int) < g.length) = False := by simp; omega
        repeat' (first
         | (with_reducible apply St.o; constructor) <;> intro _
         | with_reducible first | refine LenR_i fun _ => ?_ | refine And.intro (by omega) ?_ | (apply Sp.o; constructor) | refine mkl_own ?_ | refine frz0_i ?_
         | simp (maxSteps := 1000000) (disch := omega) only [lE, ptrCells, ptrAdd, isNil, readsV, readsP, isCall, wrote, srcOf, seval, hlt, decide_false])
        have hje : j = g.length := by omega
        have hfin : trimF ss x g = y := by rw [trimF, ← hje, hst]
        refine round_i (o := fun st pd => .loop st pd [(5, .op 3 0), (6, .op 4 0)] N.n fn #[24] cas bd) e5 ⟨rfl, ?_⟩
        rw [hfin] at hback ⊢
        exact hback H2 (hbl' hb2)
  have hgl := groups_len (ordered l)
  rw [ordered_length] at hgl
  have hpush : ∀ (x : List Ver) (g : List Ver) (k : Nat), g ∈ groups (ordered l) → x.length + (k + 1) * 1000000 ≤ 1000000000000 → (trimF ss x g).length + k * 1000000 ≤ 1000000000000 := fun x g k hgm h => by
    have h1 := trimSt_le g ss x g.length
    have h2 := ((groups_spec _ _ (Nat.le_refl _)).2 g hgm).2.1.length_le
    rw [ordered_length] at h2
    unfold trimF
    omega
  have h44 := c44g (S := colW Ver.av 29 4 F 4) (id := 5) (colW_grows _ _) (trimF ss) l hd (by omega) (fun x k => x.length + k * 1000000 ≤ 1000000000000) hpush hY [] (by simp; omega) (fun _ => False)
    [.dead, .arr 3 1 [.int .i64 (last l)], .arr 3 1 (ss.map (AV.int .i64)), .box [.slc 2 1 ss.length], .box [.raw (.slice none 0 0)], lo .ready] ⟨fun i hi hne => by
      rcases i with _ | _ | _ | _ | _ | _ | i
      all_goals first | rfl | (exfalso; exact hne rfl) | (simp [F] at hi; done) | (simp [F] at hi; omega), fun i h => h.elim, by simp [F], by simp [F], .inl ⟨rfl, rfl⟩⟩
  refine ⟨_, h44, ?_⟩
  rintro r H' ⟨⟨hfx, _, _, h6, hx⟩, _, _⟩
  rw [← hout] at hx
  generalize snapTrim l snaps = out at *
  have h5 : H'[5]? = some (lo .ready) := hfx 5 (by simp [F]) (by omega)
  have h6 : 6 ≤ H'.length := h6
  rcases hx with ⟨hc0, h1⟩ | ⟨a, a1, a2, _, a4, a5⟩
  · subst hc0
    refine ⟨.ready, none, [(5, .op 3 0), (6, .op 4 0)], h5, by simp, [(6, .op 4 0)], H'.set 5 .lost, Ent.fr (by simp [FrSub, Go.Al.get]), ?_⟩
    have g1 : (H'.set 5 .lost)[4]? = some (.box [.raw (.slice none 0 0)]) := by rw [at_set _ _ 5 4 (by omega)]; exact h1
    generalize H'.set 5 .lost = H2 at *
    repeat' (first
     | (with_reducible apply St.o; constructor) <;> intro _
     | with_reducible first | refine LenR_i fun _ => ?_ | refine And.intro (by omega) ?_ | (apply Sp.o; constructor) | refine mkl_own ?_ | refine frz0_i ?_
     | simp (maxSteps := 1000000) (disch := omega) only [lE, ptrCells, ptrAdd, isNil, readsV, readsP, isCall, wrote, srcOf, seval, g1])
    exact keepn_i 4 ⟨rfl, rfl⟩
  · have a1 : 6 ≤ a := a1
    have g1 : (H'.set 5 .lost)[4]? = some (.box [.slc a 4 out.length]) := by rw [at_set _ _ 5 4 (by omega)]; exact a4
    have ga : (H'.set 5 .lost)[a]? = some (.arr 29 4 (out.map Ver.av)) := by rw [at_set _ _ 5 a (by omega)]; exact a5
    refine ⟨.ready, none, [(5, .op 3 0), (6, .op 4 0)], h5, by simp, [(6, .op 4 0)], H'.set 5 .lost, Ent.fr (by simp [FrSub, Go.Al.get]), ?_⟩
    generalize H'.set 5 .lost = H2 at *
    repeat' (first
     | (with_reducible apply St.o; constructor) <;> intro _
     | with_reducible first | refine LenR_i fun _ => ?_ | refine And.intro (by omega) ?_ | (apply Sp.o; constructor) | refine mkl_own ?_ | refine frz0_i ?_
     | simp (maxSteps := 1000000) (disch := omega) only [lE, ptrCells, ptrAdd, isNil, readsV, readsP, isCall, wrote, srcOf, seval, g1])
    refine keep_i [] true rfl (by simp) rfl ⟨?_, ?_⟩
    · simp only [lP, seval, ga, vw_vers]
    · simp only [lP, seval]
end Go.Proofs.Try

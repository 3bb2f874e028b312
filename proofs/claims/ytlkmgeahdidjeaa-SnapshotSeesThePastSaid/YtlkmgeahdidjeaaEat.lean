/-
  A part of the proof: see the text of the law.
-/
import Derived.Test.YtlkmgeahdidjeaaEas
set_option linter.unusedSimpArgs false
set_option linter.unusedVariables false
namespace Go.Proofs.Try
open Go.Al
set_option maxRecDepth 100000
/-- alum/snapshot.Rows -/
def mc21 : MC :=
 (.seq (.ops [(none, (.e (.box 3 (.t 1)))),
 (none, (.v (.mov 4 (.c (.raw (.slice none 0 0))))))])
 (.seq (.ops [(none, (.e (.alloc 5 [(.raw (.slice none 0 0))])))])
 (.seq (.seq (.ops [(none, (.v (.mov 8 (.t 0)))),
 (none, (.e (.call (some 9) 35 [(.t 8)])))])
 (.block 0 (.rngf (.t 9) #[10] (.ops [(none, (.v (.mov 6 (.t 10))))]) (.block 1 (.seq (.ops [(none, (.v (.mov 11 (.t 6)))),
 (none, (.v (.load 12 false 1 (.t 3)))),
 (none, (.e (.call (some 13) 36 [(.t 11), (.t 12)]))),
 (none, (.v (.mov 7 (.t 13))))])
 (.seq (.ops [(none, (.v (.mov 14 (.t 7)))),
 (none, (.v (.bin 15 .geq false (.t 14) (.c (.int .i64 0))))),
 (none, (.v (.mov 16 (.t 15)))),
 ((some (16, true)), (.v (.mov 17 (.t 6)))),
 ((some (16, true)), (.v (.mov 18 (.t 7)))),
 ((some (16, true)), (.p (.idx 19 4 (.t 17) (.t 18)))),
 ((some (16, true)), (.v (.fld 20 2 (.t 19)))),
 ((some (16, true)), (.v (.load 21 false 1 (.t 20)))),
 ((some (16, true)), (.v (.not 22 (.t 21)))),
 (none, (.v (.pick 23 (.t 16) (.t 22) (.c (.bool false)))))])
 (.cond 23
 (.any true (.pure0 none (.v (.mov 25 (.t 6)))
 (.pure0 none (.v (.mov 26 (.t 7)))
 (.pure0 none (.p (.idx 27 4 (.t 25) (.t 26)))
 (.pure0 none (.v (.load 28 true 4 (.t 27)))
 (.alt none (.v (.load 24 false 1 (.t 5)))
 (.alt none (.e (.mkl 29 29 4 1 (.agg [(.int .i64 0), (.int .i64 0), (.bool false), (.raw (.slice none 0 0))]) [(0, (.t 28))]))
 (.alt none (.e (.app 30 29 4 48 (.t 24) (.t 29)))
 (.alt none (.e (.store 1 false (.t 5) (.t 30)))
 .done
 .stop)
 .stop)
 .stop)
 (.alt none (.e (.mkl 29 29 4 1 (.agg [(.int .i64 0), (.int .i64 0), (.bool false), (.raw (.slice none 0 0))]) [(0, (.t 28))]))
 (.alt none (.v (.load 24 false 1 (.t 5)))
 (.alt none (.e (.app 30 29 4 48 (.t 24) (.t 29)))
 (.alt none (.e (.store 1 false (.t 5) (.t 30)))
 .done
 .stop)
 .stop)
 .stop)
 .stop)))))))
 .skip)))))))
 (.seq (.ops [(none, (.v (.load 31 false 1 (.t 5)))),
 (none, (.v (.mov 4 (.t 31))))])
 .ret))))
theorem ok21 : FnOk E 21 32 [.tmp 4] mc21 := .of func21 (by kernel_rfl) (by kernel_rfl) (by kernel_rfl) (by kernel_rfl) (by kernel_rfl)
/-- alum/snapshot.Count -/
def mc22 : MC :=
 (.seq (.ops [(none, (.v (.mov 4 (.c (.int .i64 0)))))])
 (.seq (.ops [(none, (.v (.mov 5 (.t 0)))),
 (none, (.v (.mov 6 (.t 1)))),
 (none, (.e (.call (some 7) 21 [(.t 5), (.t 6)]))),
 (none, (.p (.len 8 (.t 7)))),
 (none, (.v (.mov 4 (.t 8))))])
 .ret))
theorem ok22 : FnOk E 22 9 [.tmp 4] mc22 := .of func22 (by kernel_rfl) (by kernel_rfl) (by kernel_rfl) (by kernel_rfl) (by kernel_rfl)
end Go.Proofs.Try
namespace Go.Proofs.Try
open Go.Al
set_option linter.unusedVariables false
set_option linter.unusedSimpArgs false
set_option maxRecDepth 20000
set_option maxHeartbeats 8000000

theorem flat_len : ∀ {L : List (List Ver)}, (∀ g ∈ L, g ≠ []) → L.length ≤ L.flatten.length
  | [], _ => by simp
  | g :: L, h => by
    have h1 := flat_len (L := L) fun x hx => h x (by simp [hx])
    have h2 : 0 < g.length := List.length_pos_iff.2 (h g (by simp))
    simp only [List.length_cons, List.flatten_cons, List.length_append]
    omega
theorem groups_len (a : List Ver) : (groups a).length ≤ a.length := by
  obtain ⟨h1, h2⟩ := groups_spec a.length a (Nat.le_refl _)
  have := flat_len (L := groups a) fun g hg => (h2 g hg).1
  rwa [h1] at this
theorem seesS_lt (g : List Ver) (snap : Int) : -1 ≤ seesS g snap ∧ seesS g snap < g.length := by
  have := (List.takeWhile_sublist (l := g) (fun v => decide (v.stamp ≤ snap))).length_le
  unfold seesS
  omega
theorem c21 (l : List Ver) (snap : Int) (hd : diff l) (hc : l.length ≤ 1048576) : ACalls E.P 21 [.view 4 (l.map Ver.av), .int .i64 snap] [] (fun r H => r = .view 4 ((snapRows l snap).map Ver.av) ∧ H = []) := by
  have hmax := maxLen_eq
  have h35 := c35 l
  refine ok21.acalls hE hm (by simp) fun N hN => ?_
  unfold mc21
  simp only [lA, ptrCells, ptrAdd, isNil, readsV, readsP, isCall, wrote, srcOf, seval]
  refine callN_i [] false (by simp) (by simp) ?_
  simp only [lP, seval]
  refine ⟨_, h35, ?_⟩
  rintro _ _ ⟨rfl, rfl⟩
  simp only [lA, lP, ptrCells, ptrAdd, isNil, readsV, readsP, isCall, wrote, srcOf, seval]
  refine rng_i hN [(3, .op 0 0), (5, .op 1 0)] (by simp [FrSub, Go.Al.get]) fun fn cas bd hy => ?_
  let lp : AObj := .loop .ready none [(3, .op 0 0), (5, .op 1 0)] N.n fn #[10] cas bd
  have hY : ∀ (x : List Ver) (g : List Ver) (k : Nat) (G : Nat → Prop) (H : List AObj), g ∈ groups (ordered l) → x.length + (k + 1) ≤ 1048576 → colV (.box [.int .i64 snap]) lp x G H → AYield E.P 2 [.view 4 (g.map Ver.av)] H (fun r H' => r = .bool true ∧ Bhd (colV (.box [.int .i64 snap]) lp) (rowF snap x g) G H H') := by
    rintro x g k G H hgm hk ⟨h0, h2, hg, h3, hx⟩
    refine hy 2 [(3, .op 0 0), (5, .op 1 0)] [.view 4 (g.map Ver.av)] H _ h2 rfl fun N2 hN2 => ?_
    simp only [lA, ptrCells, ptrAdd, isNil, readsV, readsP, isCall, wrote, srcOf, seval, get_last, set_last]
    have ap : ∀ (L : List AObj) (o : AObj) (i : Nat), i < L.length → (L ++ [o])[i]? = L[i]? := fun L o i hi => List.getElem?_append_left hi
    have st : ∀ (L : List AObj) (o : AObj) (i j : Nat), i ≠ j → (L.set i o)[j]? = L[j]? := fun L o i j hi => List.getElem?_set_ne hi
    have ss : ∀ (L : List AObj) (o : AObj) (i : Nat), i < L.length → (L.set i o)[i]? = some o := fun L o i hi => by simp [hi]
    refine ⟨h2, ?_⟩
    have fl : (H.set 2 (.loop .busy none [(3, .op 0 0), (5, .op 1 0)] N.n fn #[10] cas bd)).length = H.length := by simp
    have f0 : (H.set 2 (.loop .busy none [(3, .op 0 0), (5, .op 1 0)] N.n fn #[10] cas bd))[0]? = H[0]? := st _ _ 2 0 (by omega)
    have f1 : (H.set 2 (.loop .busy none [(3, .op 0 0), (5, .op 1 0)] N.n fn #[10] cas bd))[1]? = H[1]? := st _ _ 2 1 (by omega)
    have f2 : (H.set 2 (.loop .busy none [(3, .op 0 0), (5, .op 1 0)] N.n fn #[10] cas bd))[2]? = some (.loop .busy none [(3, .op 0 0), (5, .op 1 0)] N.n fn #[10] cas bd) := ss _ _ 2 (by omega)
    have f3 : ∀ i, 3 ≤ i → (H.set 2 (.loop .busy none [(3, .op 0 0), (5, .op 1 0)] N.n fn #[10] cas bd))[i]? = H[i]? := fun i h1 => st _ _ 2 i (by omega)
    generalize H.set 2 (.loop .busy none [(3, .op 0 0), (5, .op 1 0)] N.n fn #[10] cas bd) = H1 at *
    rw [h0] at f0
    have hgl : g.length ≤ 1048576 := by
      have := ((groups_spec _ _ (Nat.le_refl _)).2 g hgm).2.1.length_le
      rw [ordered_length] at this; omega
    have h36 := atAny (by simp [scL, sc]) (c36 g snap (groups_asc (ordered_srtd l) (diff_perm hd (ordered_perm l)) hgm) hgl) H1
    simp only [lA, ptrCells, ptrAdd, isNil, readsV, readsP, isCall, wrote, srcOf, seval, f0]
    refine ACalls.mono h36 ?_
    rintro _ H2 ⟨rfl, hH2⟩
    replace hH2 := hH2.symm
    subst hH2
    simp only [lA, ptrCells, ptrAdd, isNil, readsV, readsP, isCall, wrote, srcOf, seval]
    obtain ⟨s1, s2⟩ := seesS_lt g snap
    have hrow : rowF snap x g = if 0 ≤ seesS g snap ∧ (g.getD (seesS g snap).toNat default).dead = false then x ++ [g.getD (seesS g snap).toNat default] else x := rfl
    generalize seesS g snap = p at *
    generalize hv : g.getD p.toNat default = v at *
    rcases hx with ⟨rfl, h1⟩ | ⟨a, a1, a2, a3, a4, a5⟩
    · rw [h1] at f1
      have g1 : ∀ o, (H1 ++ [o])[1]? = some (.box [.raw (.slice none 0 0)]) := fun o => by rw [ap _ _ 1 (by omega)]; exact f1
      have g2 : ∀ o o', (H1 ++ [o] ++ [o'])[1]? = some (.box [.raw (.slice none 0 0)]) := fun o o' => by rw [ap _ _ 1 (by simp <;> omega)]; exact g1 o
      repeat' (first
       | (with_reducible apply St.o; constructor) <;> intro _
       | with_reducible first | refine LenR_i fun _ => ?_ | refine And.intro (by omega) ?_ | (apply Sp.o; constructor) | refine mkl_own ?_ | refine frz0_i ?_
       | with_reducible refine any_i [1] ?_
       | simp (maxSteps := 1000000) (disch := omega) only [lE, ptrCells, ptrAdd, isNil, readsV, readsP, isCall, wrote, srcOf, seval, IdxR_vers, hv, f1, g1, g2, get_last, List.length_map, fillE, setAll, List.length_cons, List.length_nil, List.length_append])
      all_goals first
        | (rename_i q1 q2
           have hr2 : rowF snap [] g = [v] := by rw [hrow, if_pos ⟨q1, by simpa using q2⟩]; rfl
           refine round_i (o := fun st pd => .loop st pd [(3, .op 0 0), (5, .op 1 0)] N.n fn #[10] cas bd) (by rw [st _ _ 1 2 (by omega), ap _ _ 2 (by simp <;> omega), ap _ _ 2 (by omega)]; exact f2) ⟨rfl, ?_⟩
           rw [hr2]
           refine ⟨⟨by rw [st _ _ 2 0 (by omega), st _ _ 1 0 (by omega), ap _ _ 0 (by simp), ap _ _ 0 (by omega)]; exact f0, ss _ _ 2 (by simp <;> omega), fun i hi => ⟨(hg i hi).1, by have := (hg i hi).2; simp <;> omega⟩, by simp <;> omega, .inr ⟨H1.length + 1, by omega, by simp, fun hG => by have := (hg _ hG).2; omega, ?_, ?_⟩⟩, by simp <;> omega, fun i hi => ?_⟩
           · rw [st _ _ 2 1 (by omega), ss _ _ 1 (by simp)]; simp
           · rw [st _ _ 2 _ (by omega), st _ _ 1 _ (by omega)]; simp [ver_av]
           · obtain ⟨g3, g4⟩ := hg i hi
             rw [st _ _ 2 i (by omega), st _ _ 1 i (by omega), ap _ _ i (by simp <;> omega), ap _ _ i (by omega), f3 i g3])
        | skip
      all_goals (
        have hr2 : rowF snap [] g = [] := by
          rw [hrow]
          refine if_neg fun ⟨q1, q2⟩ => ?_
          first
          | exact absurd q1 (by assumption)
          | (have q3 : (!v.dead) = false := by assumption
             rw [q2] at q3; cases q3)
        refine round_i (o := fun st pd => .loop st pd [(3, .op 0 0), (5, .op 1 0)] N.n fn #[10] cas bd) f2 ⟨rfl, ?_⟩
        rw [hr2]
        refine ⟨⟨by rw [st _ _ 2 0 (by omega)]; exact f0, ss _ _ 2 (by omega), fun i hi => ⟨(hg i hi).1, by have := (hg i hi).2; simp <;> omega⟩, by simp <;> omega, .inl ⟨rfl, by rw [st _ _ 2 1 (by omega)]; exact f1⟩⟩, by simp <;> omega, fun i hi => ?_⟩
        obtain ⟨g3, g4⟩ := hg i hi
        rw [st _ _ 2 i (by omega), f3 i g3])
    · rw [a4] at f1
      have fa := f3 a a1
      rw [a5] at fa
      have g1 : ∀ o, (H1 ++ [o])[1]? = some (.box [.slc a 4 x.length]) := fun o => by rw [ap _ _ 1 (by omega)]; exact f1
      have g2 : ∀ o, (H1 ++ [o])[a]? = some (.arr 29 4 (x.map Ver.av)) := fun o => by rw [ap _ _ a (by omega)]; exact fa
      have g3 : ∀ o o', ((H1 ++ [o]).set a .dead ++ [o'])[1]? = some (.box [.slc a 4 x.length]) := fun o o' => by rw [ap _ _ 1 (by simp <;> omega), st _ _ a 1 (by omega)]; exact g1 o
      have m1 : (a ∈ [1, a]) = True := by simp
      have m2 : (1 ∈ [1, a]) = True := by simp
      repeat' (first
       | (with_reducible apply St.o; constructor) <;> intro _
       | with_reducible first | refine LenR_i fun _ => ?_ | refine And.intro (by omega) ?_ | (apply Sp.o; constructor) | refine mkl_own ?_ | refine frz0_i ?_
       | with_reducible refine any_i [1, a] ?_
       | simp (maxSteps := 1000000) (disch := omega) only [lE, ptrCells, ptrAdd, isNil, readsV, readsP, isCall, wrote, srcOf, seval, m1, m2, true_or, IdxR_vers, hv, f1, g1, g2, g3, get_last, List.length_map, fillE, setAll, List.length_cons, List.length_nil, List.length_append, List.length_set])
      all_goals first
        | (rename_i q1 q2
           have hr2 : rowF snap x g = x ++ [v] := by rw [hrow, if_pos ⟨q1, by simpa using q2⟩]
           refine round_i (o := fun st pd => .loop st pd [(3, .op 0 0), (5, .op 1 0)] N.n fn #[10] cas bd) (by rw [st _ _ 1 2 (by omega), ap _ _ 2 (by simp <;> omega), st _ _ a 2 (by omega), ap _ _ 2 (by omega)]; exact f2) ⟨rfl, ?_⟩
           rw [hr2]
           refine ⟨⟨by rw [st _ _ 2 0 (by omega), st _ _ 1 0 (by omega), ap _ _ 0 (by simp), st _ _ a 0 (by omega), ap _ _ 0 (by omega)]; exact f0, ss _ _ 2 (by simp <;> omega), fun i hi => ⟨(hg i hi).1, by have := (hg i hi).2; simp <;> omega⟩, by simp <;> omega, .inr ⟨H1.length + 1, by omega, by simp, fun hG => by have := (hg _ hG).2; omega, ?_, ?_⟩⟩, by simp <;> omega, fun i hi => ?_⟩
           · rw [st _ _ 2 1 (by omega), ss _ _ 1 (by simp)]; simp
           · rw [st _ _ 2 _ (by omega), st _ _ 1 _ (by omega)]; simp [ver_av]
           · obtain ⟨g3, g4⟩ := hg i hi
             have hia : a ≠ i := fun h => a3 (h ▸ hi)
             rw [st _ _ 2 i (by omega), st _ _ 1 i (by omega), ap _ _ i (by simp <;> omega), st _ _ a i hia, ap _ _ i (by omega), f3 i g3])
        | skip
      all_goals (
        have hr2 : rowF snap x g = x := by
          rw [hrow]
          refine if_neg fun ⟨q1, q2⟩ => ?_
          first
          | exact absurd q1 (by assumption)
          | (have q3 : (!v.dead) = false := by assumption
             rw [q2] at q3; cases q3)
        refine round_i (o := fun st pd => .loop st pd [(3, .op 0 0), (5, .op 1 0)] N.n fn #[10] cas bd) f2 ⟨rfl, ?_⟩
        rw [hr2]
        refine ⟨⟨by rw [st _ _ 2 0 (by omega)]; exact f0, ss _ _ 2 (by omega), fun i hi => ⟨(hg i hi).1, by have := (hg i hi).2; simp <;> omega⟩, by simp <;> omega, .inr ⟨a, a1, by simp <;> omega, a3, by rw [st _ _ 2 1 (by omega)]; exact f1, by rw [st _ _ 2 a (by omega)]; exact fa⟩⟩, by simp <;> omega, fun i hi => ?_⟩
        obtain ⟨g3, g4⟩ := hg i hi
        rw [st _ _ 2 i (by omega), f3 i g3])
  have hgl := groups_len (ordered l)
  rw [ordered_length] at hgl
  have hpush : ∀ (x : List Ver) (g : List Ver) (k : Nat), g ∈ groups (ordered l) → x.length + (k + 1) ≤ 1048576 → (rowF snap x g).length + k ≤ 1048576 := fun x g k _ h => by
    unfold rowF; split
    · simp only [List.length_append, List.length_cons, List.length_nil]; omega
    · omega
  have h44 := c44g (S := colV (.box [.int .i64 snap]) lp) (id := 2) (colV_grows _ lp) (rowF snap) l hd hc (fun x k => x.length + k ≤ 1048576) hpush hY [] (by simp; omega) (fun _ => False)
    [.box [.int .i64 snap], .box [.raw (.slice none 0 0)], lp] ⟨rfl, rfl, fun i h => h.elim, by simp, .inl ⟨rfl, rfl⟩⟩
  refine ⟨_, h44, ?_⟩
  rintro r H' ⟨⟨_, h2, _, h3, hx⟩, _, _⟩
  rw [show (groups (ordered l)).foldl (rowF snap) [] = snapRows l snap from rfl] at hx
  generalize snapRows l snap = out at *
  have st : ∀ (L : List AObj) (o : AObj) (i j : Nat), i ≠ j → (L.set i o)[j]? = L[j]? := fun L o i j hi => List.getElem?_set_ne hi
  rcases hx with ⟨hc0, h1⟩ | ⟨a, a1, a2, _, a4, a5⟩
  · subst hc0
    refine ⟨.ready, none, [(3, .op 0 0), (5, .op 1 0)], h2, by simp, [(3, .op 0 0), (5, .op 1 0)], H'.set 2 .lost, Ent.fr (by simp [FrSub, Go.Al.get]), ?_⟩
    have g1 : (H'.set 2 .lost)[1]? = some (.box [.raw (.slice none 0 0)]) := by rw [st _ _ 2 1 (by omega)]; exact h1
    generalize H'.set 2 .lost = H2 at *
    repeat' (first
     | (with_reducible apply St.o; constructor) <;> intro _
     | with_reducible first | refine LenR_i fun _ => ?_ | refine And.intro (by omega) ?_ | (apply Sp.o; constructor) | refine mkl_own ?_ | refine frz0_i ?_
     | simp (maxSteps := 1000000) (disch := omega) only [lE, ptrCells, ptrAdd, isNil, readsV, readsP, isCall, wrote, srcOf, seval, g1])
    exact keepn_i 4 ⟨rfl, rfl⟩
  · have g1 : (H'.set 2 .lost)[1]? = some (.box [.slc a 4 out.length]) := by rw [st _ _ 2 1 (by omega)]; exact a4
    have ga : (H'.set 2 .lost)[a]? = some (.arr 29 4 (out.map Ver.av)) := by rw [st _ _ 2 a (by omega)]; exact a5
    refine ⟨.ready, none, [(3, .op 0 0), (5, .op 1 0)], h2, by simp, [(3, .op 0 0), (5, .op 1 0)], H'.set 2 .lost, Ent.fr (by simp [FrSub, Go.Al.get]), ?_⟩
    generalize H'.set 2 .lost = H2 at *
    repeat' (first
     | (with_reducible apply St.o; constructor) <;> intro _
     | with_reducible first | refine LenR_i fun _ => ?_ | refine And.intro (by omega) ?_ | (apply Sp.o; constructor) | refine mkl_own ?_ | refine frz0_i ?_
     | simp (maxSteps := 1000000) (disch := omega) only [lE, ptrCells, ptrAdd, isNil, readsV, readsP, isCall, wrote, srcOf, seval, g1])
    refine keep_i [] true rfl (by simp) rfl ⟨?_, ?_⟩
    · simp only [lP, seval, ga, vw_vers]
    · simp only [lP, seval]
theorem c22 (l : List Ver) (snap : Int) (hd : diff l) (hc : l.length ≤ 1048576) : ACalls E.P 22 [.view 4 (l.map Ver.av), .int .i64 snap] [] (fun r H => r = .int .i64 (snapRows l snap).length ∧ H = []) := by
  have h21 := c21 l snap hd hc
  refine ok22.acalls hE hm (by simp) fun N hN => ?_
  unfold mc22
  simp only [lA, ptrCells, ptrAdd, isNil, readsV, readsP, isCall, wrote, srcOf, seval]
  repeat' (first
   | (with_reducible apply St.o; constructor) <;> intro _
   | with_reducible first | refine LenR_i fun _ => ?_ | refine And.intro (by omega) ?_ | (apply Sp.o; constructor) | refine mkl_own ?_ | refine frz0_i ?_
   | ((with_reducible apply Sc.o false; constructor); simp only [lP, seval, List.length_map]; refine ⟨_, h21, ?_⟩; rintro _ _ ⟨rfl, rfl⟩; simp only [lA, lP, ptrCells, ptrAdd, isNil, readsV, readsP, isCall, wrote, srcOf, seval, List.length_map])
   | ((with_reducible refine keep0_i ?_); simp only [lP, seval])
   | simp (maxSteps := 1000000) (disch := omega) only [lE, ptrCells, ptrAdd, isNil, readsV, readsP, isCall, wrote, srcOf, seval, List.length_map])
end Go.Proofs.Try

/-
  A part of the proof: see the text of the law.
-/
import Derived.Test.YtmmedfdilaijhaaGreatEar
import Derived.Test.YtmmedfdilaijhaaGreatAlphaK
set_option linter.unusedSimpArgs false
set_option linter.unusedVariables false
namespace Go.Proofs.Try
open Go.Proofs.Tryz
open Go.Al
set_option maxRecDepth 100000
def mc62 : MC :=
(.seq (.ops [(none,.v (.mov 4 (.c (.raw (.slice none 0 0)))))])
(.seq (.ops [(none,.v (.mov 8 (.t 0))),
(none,.v (.mov 9 (.t 1))),
(none,.e (.call (some 10) 61 [(.t 8),(.t 9)])),
(none,.v (.mov 5 (.t 10)))])
(.seq (.seq (.ops [(none,.v (.mov 11 (.t 5))),
(none,.v (.bin 12 .eql false (.t 11) (.c (.int .i64 (-1)))))])
(.cond 12
(.seq (.ops [(none,.v (.mov 13 (.t 0))),
(none,.v (.mov 4 (.t 13)))])
.ret)
.skip))
(.seq (.seq (.ops [(none,.v (.mov 14 (.t 5))),
(none,.v (.bin 15 .add false (.t 14) (.c (.int .i64 1)))),
(none,.v (.mov 6 (.t 15)))])
(.block 0 (.loop (.seq (.seq (.ops [(none,.v (.mov 16 (.t 6))),
(none,.v (.mov 17 (.t 0))),
(none,.p (.len 18 (.t 17))),
(none,.v (.bin 19 .lss false (.t 16) (.t 18)))])
(.cond 19
.skip
(.exit 0)))
(.seq (.block 1 (.seq (.ops [(none,.v (.mov 22 (.t 0))),
(none,.v (.mov 23 (.t 6))),
(none,.p (.idx 24 1 (.t 22) (.t 23))),
(none,.v (.load 25 false 1 (.t 24))),
(none,.v (.mov 7 (.t 25)))])
(.seq (.ops [(none,.v (.mov 26 (.t 1))),
(none,.v (.mov 27 (.t 7))),
(none,.e (.callv (some 28) (.t 26) [(.t 27)])),
(none,.v (.not 29 (.t 28)))])
(.cond 29
(.seq (.ops [(none,.v (.mov 30 (.t 0))),
(none,.v (.mov 31 (.t 5))),
(none,.v (.mov 32 (.t 7))),
(none,.p (.idx 33 1 (.t 30) (.t 31))),
(none,.e (.store 1 false (.t 33) (.t 32)))])
(.ops [(none,.v (.mov 34 (.t 5))),
(none,.v (.bin 35 .add false (.t 34) (.c (.int .i64 1)))),
(none,.v (.mov 5 (.t 35)))]))
.skip))))
(.ops [(none,.v (.mov 20 (.t 6))),
(none,.v (.bin 21 .add false (.t 20) (.c (.int .i64 1)))),
(none,.v (.mov 6 (.t 21)))]))))))
(.seq (.ops [(none,.v (.mov 36 (.t 0))),
(none,.v (.mov 37 (.t 5))),
(none,.p (.cut 38 1 (.t 36) (.t 37) none)),
(none,.e (.clr none 1 (.int .i64 0) (.t 38)))])
(.seq (.ops [(none,.v (.mov 39 (.t 0))),
(none,.v (.mov 40 (.t 5))),
(none,.p (.pre 41 1 (.t 39) (some (.t 40)))),
(none,.v (.mov 4 (.t 41)))])
.ret))))))
theorem ok62 : FnOk E 62 42 [.tmp 4] mc62 := .of func62 (by kernel_rfl) (by kernel_rfl) (by kernel_rfl) (by kernel_rfl) (by kernel_rfl)
end Go.Proofs.Try
namespace Go.Proofs.Try
open Go.Proofs.Tryz
open Go.Al
set_option linter.unusedVariables false
set_option linter.unusedSimpArgs false
set_option maxRecDepth 20000
set_option maxHeartbeats 8000000

theorem firstI_cases (p : Int → Bool) (l : List Int) : (firstI p l = -1 ∧ ∀ x ∈ l, p x = false) ∨ ∃ i : Nat, firstI p l = i ∧ i < l.length ∧ (l.take i).filter (fun x => !p x) = l.take i ∧ p (l.getD i default) = true := by
  unfold firstI
  cases hf : l.findIdx? p with
  | none => exact .inl ⟨rfl, List.findIdx?_eq_none_iff.1 hf⟩
  | some i =>
    obtain ⟨hi, hp, hn⟩ := List.findIdx?_eq_some_iff_getElem.1 hf
    refine .inr ⟨i, rfl, hi, List.filter_eq_self.2 fun x hx => ?_, ?_⟩
    · obtain ⟨j, hj, rfl⟩ := List.mem_take_iff_getElem.1 hx
      simpa using hn j (by omega)
    · rw [List.getD_eq_getElem?_getD, List.getElem?_eq_getElem hi, Option.getD_some]; exact hp
theorem vwU_ints {H : List AObj} {l : List Nat} {n E' q : Nat} {a : List Int} (hq : q ≤ a.length) : vwU none (some (.arr E' 1 (a.map (AV.int .i64)))) H l n 1 0 q = .view 1 ((a.take q).map (AV.int .i64)) := by
  rw [vwU_arr (by simpa using hq), List.drop_zero, ← List.map_take, vw_ints]
theorem stE_int {P : Program} {m : Nat} {N : FN} {fr : List (Nat × AV)} {H : List AObj} {q : Ke} {xs : List Int} {id sz' n : Nat} {E' : TypeId} {v : Int} (hn : n < xs.length) :
    stE P m N (some (.arr E' sz' (xs.map (AV.int .i64)))) 1 [.int .i64 v] (.int .i64 v) id 1 n 0 fr H q = (1 = sz' ∧ rE P m N q fr (H.set id (.arr E' sz' ((xs.set n v).map (AV.int .i64))))) := by
  rw [stE_flat (fun _ => trivial) hn, List.map_set]
  simp
theorem set_take {a : List Int} {i : Nat} {v : Int} (h : i < a.length) : (a.set i v).take (i + 1) = a.take i ++ [v] := by
  rw [List.take_succ_eq_append_getElem (by simpa using h), List.getElem_set_self, List.take_set_of_le (Nat.le_refl _)]
theorem set_drop {a : List Int} {i j : Nat} {v : Int} (h : i < j) : (a.set i v).drop j = a.drop j := List.drop_set_of_lt h
theorem c62 (a : List Int) (n : Nat) (hn : n ≤ a.length) (h60 : n ≤ 1000000) (f : FuncId) (caps : List AV) (p : Int → Bool) (hp : ∀ r ∈ a.take n, ACalls E.P f (.int .i64 r :: caps) [] (fun q H => q = .bool (p r) ∧ H = [])) (hcap : ∀ H ids bor, caps.map (pa H ids bor 8) = caps) (hcap7 : ∀ H ids bor, caps.map (pa H ids bor 7) = caps) :
    ACalls E.P 62 [.sub 0 1 0 n, .fn (.func f) [] caps] [.arr 3 1 (a.map (AV.int .i64))] (fun r H => ∃ a' : List Int, a'.length = a.length ∧ a'.take ((a.take n).filter fun x => !p x).length = (a.take n).filter (fun x => !p x) ∧ r = .sub 0 1 0 ((a.take n).filter fun x => !p x).length ∧ H = [.arr 3 1 (a'.map (AV.int .i64))]) := by
  have hmax := maxLen_eq
  have hl : (a.take n).length = n := by rw [List.length_take]; omega
  have h39 := c61 (a.take n) f caps p hp hcap
  refine ok62.acalls hE hm (by simp) fun N hN => ?_
  unfold mc62
  simp only [lA,ptrCells,ptrAdd,isNil,readsV,readsP,isCall,wrote,srcOf,seval]
  have hvw : ∀ (H : List AObj) (l : List Nat) (m : Nat), vwU none (some (.arr 3 1 (a.map (AV.int .i64)))) H l m 1 0 n = .view 1 ((a.take n).map (AV.int .i64)) := fun H l m => vwU_ints hn
  repeat' (first | (with_reducible apply St.o; constructor) <;> intro _ | (with_reducible first | refine LenR_i fun _ => ?_ | refine And.intro (by omega) ?_ | (apply Sp.o; constructor) | refine mkl_own ?_ | refine frz0_i ?_) | ((with_reducible apply Sc.o true; constructor); simp only [lP,seval,hcap,hcap7,hvw]; refine ⟨_,h39,?_⟩; rintro _ _ ⟨rfl,rfl⟩; simp only [lA,lP,ptrCells,ptrAdd,isNil,readsV,readsP,isCall,wrote,srcOf,seval,hcap,hcap7,hvw]) | simp (maxSteps := 1000000) (disch := omega) only [lE,ptrCells,ptrAdd,isNil,readsV,readsP,isCall,wrote,srcOf,seval,hcap,hcap7,hvw])
  · rename_i h1
    rcases firstI_cases p (a.take n) with ⟨_, e⟩ | ⟨i, e, _⟩
    · have ef : (a.take n).filter (fun x => !p x) = a.take n := List.filter_eq_self.2 fun x hx => by simp [e x hx]
      rw [ef, hl]
      exact keep_i [0] false (by simp) (by simp) rfl ⟨a,rfl,rfl,by simp only [lP,seval],by simp only [lP,seval]⟩
    · omega
  · rename_i h1
    rcases firstI_cases p (a.take n) with ⟨e, _⟩ | ⟨i0, e, hi0, hf0, hp0⟩
    · exact absurd e h1
    rw [hl] at hi0
    rw [e]
    generalize hfl : (fun x => !p x) = np at *
    have hnp : ∀ x, np x = !p x := fun x => by rw [← hfl]
    have hbase : ((a.take n).take (i0 + 1)).filter np = (a.take n).take i0 := by
      rw [take_succD (by omega), List.filter_append, hf0]
      have : np ((a.take n).getD i0 default) = false := by rw [hnp, hp0]; rfl
      simp only [List.filter_cons,this,List.filter_nil,Bool.false_eq_true,if_false,List.append_nil]
    have hbl : (((a.take n).take (i0 + 1)).filter np).length = i0 := by rw [hbase, List.length_take]; omega
    refine loop_i (fun x : Nat × List Int => i0 < x.1 ∧ x.1 ≤ n ∧ x.2.length = a.length ∧ (((a.take n).take x.1).filter np).length < x.1 ∧ x.2.take (((a.take n).take x.1).filter np).length = ((a.take n).take x.1).filter np ∧ x.2.drop x.1 = a.drop x.1)
      (fun x => ⟨[(0, .sub 0 1 0 n), (1, .fn (.func f) [] caps), (5, .int .i64 (((a.take n).take x.1).filter np).length), (6, .int .i64 x.1)], [.arr 3 1 (x.2.map (AV.int .i64))]⟩) (fun x => n - x.1) (i0 + 1, a)
      ⟨by simp only; omega,by simp only; omega,rfl,by simp only [hbl]; omega,?_,rfl⟩ (Ent.fr ?_) ?_
    · simp only [hbl,hbase]
      rw [List.take_take, Nat.min_eq_left (by omega), List.length_take, Nat.min_eq_left (by omega)]
    · simp only [hbl,FrSub,Go.Al.get]
      simp
      exact wrap_i64 (by omega) (by omega)
    rintro ⟨j, b⟩ ⟨h1, h2, h3, h4, h5, h6⟩
    simp only at h1 h2 h3 h4 h5 h6 ⊢
    by_cases hjn : j < n
    · have hja : a.getD j default = (a.take n).getD j default := by simp [hjn]
      have hbj : b.getD j default = a.getD j default := by
        have := congrArg (fun l => l.getD 0 default) h6
        simpa using this
      have hpj := hp _ (show (a.take n).getD j default ∈ a.take n from getD_mem (by omega))
      rw [← hja] at hpj
      have hst : ((a.take n).take (j + 1)).filter np = ((a.take n).take j).filter np ++ if p (a.getD j default) = true then [] else [a.getD j default] := by
        rw [take_succD (by omega), List.filter_append, hja]
        congr 1
        generalize (a.take n).getD j default = u
        cases q : p u <;> simp [q, hnp]
      have hx1 : (b.map (AV.int .i64))[j]? = some (.int .i64 (a.getD j default)) := by
        rw [← hbj]
        simp [show j < b.length by omega]
      have hlt : (((a.take n).take j).filter np).length < b.length := by omega
      generalize hi : (((a.take n).take j).filter np) = F at *
      generalize hv : a.getD j default = v at *
      have hset : (b.map (AV.int .i64)).set F.length (.int .i64 v) = (b.set F.length v).map (AV.int .i64) := by rw [List.map_set]
      repeat' (first | (with_reducible apply St.o; constructor) <;> intro _ | (with_reducible first | refine LenR_i fun _ => ?_ | refine And.intro (by omega) ?_ | (apply Sp.o; constructor) | refine mkl_own ?_ | refine frz0_i ?_) | ((with_reducible apply Sc.o true; constructor); simp only [lP,seval,hx1,Int.toNat_natCast,List.length_map,hcap,stE_int]; refine ⟨_,hpj,?_⟩; rintro _ _ ⟨rfl,rfl⟩; simp only [lA,lP,ptrCells,ptrAdd,isNil,readsV,readsP,isCall,wrote,srcOf,seval,hx1,Int.toNat_natCast,List.length_map,hcap,stE_int]) | simp (maxSteps := 1000000) (disch := omega) only [lE,ptrCells,ptrAdd,isNil,readsV,readsP,isCall,wrote,srcOf,seval,hx1,Int.toNat_natCast,List.length_map,hcap,stE_int])
      all_goals try (exfalso; omega)
      · rename_i q
        have q' : ¬ p v = true := by simpa using q
        rw [if_neg q'] at hst
        have h6' : b.drop (j + 1) = a.drop (j + 1) := by
          have := congrArg (List.drop 1) h6
          rwa [List.drop_drop, List.drop_drop] at this
        have hsl : (((a.take n).take (j + 1)).filter np).length = F.length + 1 := by rw [hst]; simp
        exact back_i (j + 1,b.set F.length v) ⟨by simp only; omega,by simp only; omega,by simp only [List.length_set]; exact h3,by simp only [hsl]; omega,by simp only [hsl]; rw [set_take hlt,h5,hst],by simp only; rw [set_drop (by omega),h6']⟩ (by simp only; omega) (Ent.to [0] false (by simp) (by simp) rfl (by simp only [lP,seval,pa_ints,hsl,hcap7] <;> (try simp) <;> (try omega)) (by simp only [lP,seval,pa_ints,hsl,hcap7] <;> (try simp) <;> (try omega)))
      · rename_i q
        have q' : p v = true := by simpa using q
        rw [if_pos q', List.append_nil] at hst
        have h6' : b.drop (j + 1) = a.drop (j + 1) := by
          have := congrArg (List.drop 1) h6
          rwa [List.drop_drop, List.drop_drop] at this
        exact back_i (j + 1,b) ⟨by simp only; omega,by simp only; omega,h3,by simp only [hst]; omega,by simp only [hst]; exact h5,h6'⟩ (by simp only; omega) (Ent.to [0] false (by simp) (by simp) rfl (by simp only [lP,seval,pa_ints,hst,hcap7] <;> (try simp) <;> (try omega)) (by simp only [lP,seval,pa_ints,hst,hcap7] <;> (try simp) <;> (try omega)))
    · have hje : j = n := by omega
      subst hje
      repeat' (first | (with_reducible apply St.o; constructor) <;> intro _ | (with_reducible first | refine LenR_i fun _ => ?_ | refine And.intro (by omega) ?_ | (apply Sp.o; constructor) | refine mkl_own ?_ | refine frz0_i ?_) | simp (maxSteps := 1000000) (disch := omega) only [lE,ptrCells,ptrAdd,isNil,readsV,readsP,isCall,wrote,srcOf,seval,List.length_map,Int.toNat_natCast,Int.lt_irrefl,decide_false])
      generalize hi : (((a.take j).take j).filter np) = F at *
      have hFF : (a.take j).filter np = F := by rw [← hi, List.take_take, Nat.min_self]
      rw [hFF]
      have hz : setAt (b.map (AV.int .i64)) F.length (List.replicate (j - F.length) (.int .i64 0)) = (b.take F.length ++ List.replicate (j - F.length) 0 ++ b.drop (F.length + (j - F.length))).map (AV.int .i64) := by
        simp [setAt]
      show keepQ 1 _ (AV.sub 0 1 0 F.length) [AObj.arr 3 1 (setAt (b.map (AV.int .i64)) F.length (List.replicate (j - F.length) (.int .i64 0)))]
      rw [hz]
      refine keep_i [0] false (by simp) (by simp) rfl ⟨b.take F.length ++ List.replicate (j - F.length) 0 ++ b.drop (F.length + (j - F.length)),?_,?_,by simp only [lP,seval],by simp only [lP,seval,pa_ints]⟩
      · simp only [List.length_append,List.length_take,List.length_replicate,List.length_drop]
        omega
      · rw [List.append_assoc, List.take_append_of_le_length (by rw [List.length_take]; omega), List.take_take, Nat.min_self, h5]
end Go.Proofs.Try


namespace Go.Proofs.Try
open Go.Proofs.Tryz
open Go.Al
set_option maxRecDepth 100000
def mc35 : MC :=
(.seq (.ops [(none,.v (.mov 2 (.c (.raw (.slice none 0 0)))))])
(.seq (.ops [(none,.v (.mov 3 (.c (.raw (.slice none 0 0)))))])
(.seq (.seq (.ops [(none,.v (.mov 6 (.t 0))),
(none,.p (.len 7 (.t 6))),
(none,.v (.mov 8 (.c (.int .i64 0))))])
(.block 0 (.loop (.seq (.ops [(none,.v (.bin 9 .lss false (.t 8) (.t 7)))])
(.seq (.cond 9
.skip
(.exit 0))
(.seq (.block 1 (.seq (.ops [(none,.p (.idx 10 5 (.t 6) (.t 8))),
(none,.v (.load 11 true 5 (.t 10))),
(none,.e (.alloc 5 [(.int .i64 0),(.int .i64 0),(.int .i64 0),(.raw (.slice none 0 0)),(.raw (.slice none 0 0))])),
(none,.e (.store 5 true (.t 5) (.t 11)))])
(.seq (.ops [(none,.v (.fld 12 0 (.t 5))),
(none,.v (.load 13 false 1 (.t 12)))])
(.block 2 (.seq (.ops [(none,.v (.bin 15 .eql false (.t 13) (.c (.int .i64 1)))),
(none,.v (.mov 14 (.t 15)))])
(.cond 14
(.ops [(none,.v (.mov 16 (.t 3))),
(none,.v (.fld 17 1 (.t 5))),
(none,.v (.load 18 false 1 (.t 17))),
(none,.e (.mkl 19 3 1 1 (.int .i64 0) [(0,(.t 18))])),
(none,.e (.app 20 3 1 8 (.t 16) (.t 19))),
(none,.v (.mov 3 (.t 20)))])
(.seq (.ops [(none,.v (.bin 22 .eql false (.t 13) (.c (.int .i64 4)))),
(none,.v (.mov 21 (.t 22)))])
(.cond 21
(.ops [(none,.v (.mov 3 (.c (.raw (.slice none 0 0)))))])
(.seq (.seq (.ops [(none,.v (.bin 24 .eql false (.t 13) (.c (.int .i64 2)))),
(none,.v (.mov 23 (.t 24)))])
(.cond 23
.skip
(.ops [(none,.v (.bin 25 .eql false (.t 13) (.c (.int .i64 3)))),
(none,.v (.mov 23 (.t 25)))])))
(.cond 23
(.ops [(none,.v (.mov 26 (.t 3))),
(none,.v (.fn 27 (.func 63) [] [(.t 5)])),
(none,.e (.call (some 28) 62 [(.t 26),(.t 27)])),
(none,.v (.mov 3 (.t 28)))])
.skip))))))))))
(.ops [(none,.v (.bin 29 .add false (.t 8) (.c (.int .i64 1)))),
(none,.v (.mov 8 (.t 29)))])))))))
(.seq (.ops [(none,.v (.mov 30 (.t 3))),
(none,.v (.mov 2 (.t 30)))])
.ret))))
theorem ok35 : FnOk E 35 31 [.tmp 2] mc35 := .of func35 (by kernel_rfl) (by kernel_rfl) (by kernel_rfl) (by kernel_rfl) (by kernel_rfl)
end Go.Proofs.Try
namespace Go.Proofs.Try
open Go.Proofs.Tryz
open Go.Al
set_option linter.unusedVariables false
set_option linter.unusedSimpArgs false
set_option maxRecDepth 20000
set_option maxHeartbeats 8000000

def openStep (l : List Int) (x : Hap) : List Int := if x.k = 1 then l ++ [x.tx] else if x.k = 4 then [] else if x.k = 2 ∨ x.k = 3 then l.filter fun t => !decide (t = x.tx) else l
def openL (h : List Hap) : List Int := h.foldl openStep []
theorem openL_next {h : List Hap} {i : Nat} (hi : i < h.length) : openL (h.take (i + 1)) = openStep (openL (h.take i)) (h.getD i default) := by
  rw [take_succD hi, openL, List.foldl_append]; rfl
theorem openL_len (h : List Hap) : (openL h).length ≤ h.length := by
  have : ∀ (h : List Hap) (l : List Int), (h.foldl openStep l).length ≤ l.length + h.length := by
    intro h
    induction h with
    | nil => intro l; simp
    | cons x h ih =>
      intro l
      rw [List.foldl_cons]
      have h1 := ih (openStep l x)
      have h2 : (openStep l x).length ≤ l.length + 1 := by
        unfold openStep
        have := List.length_filter_le (fun t => !decide (t = x.tx)) l
        split
        · simp
        · split
          · simp
          · split <;> omega
      simp only [List.length_cons]
      omega
  simpa [openL] using this h []
theorem c35 (h : List Hap) (h410 : h.length ≤ 1000000) : ACalls E.P 35 [.view 5 (h.map Hap.av)] [] (fun r H => r = .view 1 ((openL h).map (AV.int .i64)) ∧ H = []) := by
  have hmax := maxLen_eq
  refine ok35.acalls hE hm (by simp) fun N hN => ?_
  unfold mc35
  simp only [lA,ptrCells,ptrAdd,isNil,readsV,readsP,isCall,wrote,srcOf,seval]
  refine LenR_i fun hl => ?_
  simp only [lA,ptrCells,ptrAdd,isNil,readsV,readsP,isCall,wrote,srcOf,seval,List.length_map]
  refine loop_i (fun p : Nat × List Int => p.1 ≤ h.length ∧ (openL (h.take p.1)).length ≤ p.2.length ∧ p.2.take (openL (h.take p.1)).length = openL (h.take p.1))
    (fun p => ⟨[(3, .sub 0 1 0 (openL (h.take p.1)).length), (0, .view 5 (h.map Hap.av)), (6, .view 5 (h.map Hap.av)), (7, .int .i64 h.length), (8, .int .i64 p.1)], [.arr 3 1 (p.2.map (AV.int .i64))]⟩) (fun p => h.length - p.1) (0, []) ⟨by simp, by simp [openL], by simp [openL]⟩
    (Ent.ghost' 3 3 1 (by omega) rfl ((Ent.asSub 3 rfl rfl).trans (Ent.to [0] false (by simp) (by simp) rfl (by simp only [lP,seval,List.take_zero,openL,List.foldl_nil,List.map_nil,List.length_nil] <;> (try simp) <;> (try omega)) (by simp only [lP,seval,List.take_zero,openL,List.foldl_nil,List.map_nil,List.length_nil] <;> (try simp) <;> (try omega))))) ?_
  rintro ⟨i, a⟩ ⟨hi, hn, ht⟩
  simp only at hi hn ht ⊢
  by_cases hil : i < h.length
  · have hnx := openL_next hil
    have hol := openL_len (h.take i)
    rw [List.length_take] at hol
    have h41 := fun r => c63 r (h.getD i default)
    have h40 := c62 a (openL (h.take i)).length hn (by omega) 63 [.vp (Hap.cs (h.getD i default))] (fun r => decide (r = (h.getD i default).tx)) (fun r _ => h41 r) (fun H ids bor => by simp only [lP,seval,pa_wrs,pa_hds,List.map_cons,List.map_nil]) (fun H ids bor => by simp only [lP,seval,pa_wrs,pa_hds,List.map_cons,List.map_nil])
    rw [ht] at h40
    clear h41
    generalize hx : h.getD i default = x at *
    obtain ⟨k, tx, st, ws, rs⟩ := x
    generalize hL : openL (h.take i) = L at *
    generalize hL' : openL (h.take (i + 1)) = L' at *
    have hcase : k = 1 ∨ k = 2 ∨ k = 3 ∨ k = 4 ∨ (¬ k = 1 ∧ ¬ k = 2 ∧ ¬ k = 3 ∧ ¬ k = 4) := by omega
    have hback : ∀ b : List Int, L'.length ≤ b.length → b.take L'.length = L' → (i + 1 ≤ h.length ∧ (openL (h.take (i + 1))).length ≤ b.length ∧ b.take (openL (h.take (i + 1))).length = openL (h.take (i + 1))) := fun b q1 q2 => by
      rw [hL']; exact ⟨by omega, q1, q2⟩
    rcases hcase with rfl | rfl | rfl | rfl | ⟨k1, k2, k3, k4⟩
    · have hst : L' = L ++ [tx] := hnx
      have hmt : (a.map (AV.int .i64)).take L.length ++ [.int .i64 tx] = (L ++ [tx]).map (AV.int .i64) := by
        rw [← List.map_take, ht]; simp
      repeat' (first | (with_reducible apply St.o; constructor) <;> intro _ | (with_reducible first | refine LenR_i fun _ => ?_ | refine And.intro (by omega) ?_ | (apply Sp.o; constructor) | refine mkl_own ?_ | refine frz0_i ?_) | simp (maxSteps := 1000000) (disch := omega) only [lE,ptrCells,ptrAdd,isNil,readsV,readsP,isCall,wrote,srcOf,seval,IdxR_haps,hx,Int.toNat_natCast,List.length_map,fillE,List.length_cons,List.length_nil,hmt])
      all_goals try (exfalso; omega)
      have hll : L'.length = L.length + 1 := by rw [hst]; simp
      exact back_i (i + 1,L ++ [tx]) (hback _ (by rw [hst]; exact Nat.le_refl _) (by rw [hst,List.take_length])) (by simp only; omega) ((Ent.asSub 3 rfl rfl).trans (Ent.to [3] false (by simp) (by simp) rfl (by simp only [lP,seval,hL',hll,pa_ints] <;> (try simp) <;> (try omega)) (by simp only [lP,seval,hL',hll,pa_ints] <;> (try simp) <;> (try omega))))
    · have hst : L' = L.filter (fun t => !decide (t = tx)) := hnx
      repeat' (first | (with_reducible apply St.o; constructor) <;> intro _ | (with_reducible first | refine LenR_i fun _ => ?_ | refine And.intro (by omega) ?_ | (apply Sp.o; constructor) | refine mkl_own ?_ | refine frz0_i ?_) | simp (maxSteps := 1000000) (disch := omega) only [lE,ptrCells,ptrAdd,isNil,readsV,readsP,isCall,wrote,srcOf,seval,IdxR_haps,hx,Int.toNat_natCast,List.length_map,fillE,List.length_cons,List.length_nil])
      all_goals try (exfalso; omega)
      refine callN_i [0] true (by simp) (by simp) ?_
      simp only [lP,seval,pa_ints,pa_wrs,pa_hds]
      refine ⟨_, h40, ?_⟩
      rintro _ _ ⟨a', q1, q2, rfl, rfl⟩
      simp only [lA,lP,ptrCells,ptrAdd,isNil,readsV,readsP,isCall,wrote,srcOf,seval,renL_ints,wrap_i64 (show -9223372036854775808 ≤ (i : Int) + 1 by omega) (show (i : Int) + 1 ≤ 9223372036854775807 by omega)]
      simp only at q2
      rw [← hst] at q2 ⊢
      refine ⟨fun _ => rfl, ?_⟩
      exact back_i (i + 1,a') (hback _ (by rw [q1,hst]; exact Nat.le_trans (List.length_filter_le _ _) hn) q2) (by simp only; omega) (Ent.to [0] false (by simp) (by simp) rfl (by simp only [lP,seval,hL',pa_ints] <;> (try simp) <;> (try omega)) (by simp only [lP,seval,hL',pa_ints] <;> (try simp) <;> (try omega)))
    · have hst : L' = L.filter (fun t => !decide (t = tx)) := hnx
      repeat' (first | (with_reducible apply St.o; constructor) <;> intro _ | (with_reducible first | refine LenR_i fun _ => ?_ | refine And.intro (by omega) ?_ | (apply Sp.o; constructor) | refine mkl_own ?_ | refine frz0_i ?_) | simp (maxSteps := 1000000) (disch := omega) only [lE,ptrCells,ptrAdd,isNil,readsV,readsP,isCall,wrote,srcOf,seval,IdxR_haps,hx,Int.toNat_natCast,List.length_map,fillE,List.length_cons,List.length_nil])
      all_goals try (exfalso; omega)
      refine callN_i [0] true (by simp) (by simp) ?_
      simp only [lP,seval,pa_ints,pa_wrs,pa_hds]
      refine ⟨_, h40, ?_⟩
      rintro _ _ ⟨a', q1, q2, rfl, rfl⟩
      simp only [lA,lP,ptrCells,ptrAdd,isNil,readsV,readsP,isCall,wrote,srcOf,seval,renL_ints,wrap_i64 (show -9223372036854775808 ≤ (i : Int) + 1 by omega) (show (i : Int) + 1 ≤ 9223372036854775807 by omega)]
      simp only at q2
      rw [← hst] at q2 ⊢
      refine ⟨fun _ => rfl, ?_⟩
      exact back_i (i + 1,a') (hback _ (by rw [q1,hst]; exact Nat.le_trans (List.length_filter_le _ _) hn) q2) (by simp only; omega) (Ent.to [0] false (by simp) (by simp) rfl (by simp only [lP,seval,hL',pa_ints] <;> (try simp) <;> (try omega)) (by simp only [lP,seval,hL',pa_ints] <;> (try simp) <;> (try omega)))
    · repeat' (first | (with_reducible apply St.o; constructor) <;> intro _ | (with_reducible first | refine LenR_i fun _ => ?_ | refine And.intro (by omega) ?_ | (apply Sp.o; constructor) | refine mkl_own ?_ | refine frz0_i ?_) | simp (maxSteps := 1000000) (disch := omega) only [lE,ptrCells,ptrAdd,isNil,readsV,readsP,isCall,wrote,srcOf,seval,IdxR_haps,hx,Int.toNat_natCast,List.length_map,fillE,List.length_cons,List.length_nil])
      all_goals try (exfalso; omega)
      have hst : L' = [] := hnx
      exact back_i (i + 1, []) (hback _ (by rw [hst]; exact Nat.le_refl _) (by rw [hst]; rfl)) (by simp only; omega) (Ent.ghost' 3 3 1 (by omega) rfl ((Ent.asSub 3 rfl rfl).trans (Ent.to [2] false (by simp) (by simp) rfl (by simp only [lP,seval,hL',hst,List.map_nil,List.length_nil] <;> (try simp) <;> (try omega)) (by simp only [lP,seval,hL',hst,List.map_nil,List.length_nil] <;> (try simp) <;> (try omega)))))
    · repeat' (first | (with_reducible apply St.o; constructor) <;> intro _ | (with_reducible first | refine LenR_i fun _ => ?_ | refine And.intro (by omega) ?_ | (apply Sp.o; constructor) | refine mkl_own ?_ | refine frz0_i ?_) | simp (maxSteps := 1000000) (disch := omega) only [lE,ptrCells,ptrAdd,isNil,readsV,readsP,isCall,wrote,srcOf,seval,IdxR_haps,hx,Int.toNat_natCast,List.length_map,fillE,List.length_cons,List.length_nil])
      all_goals try (exfalso; omega)
      have hst : L' = L := by
        rw [hnx]; simp [openStep, k1, k2, k3, k4]
      exact back_i (i + 1,a) (hback _ (by rw [hst]; exact hn) (by rw [hst]; exact ht)) (by simp only; omega) (Ent.to [0] false (by simp) (by simp) rfl (by simp only [lP,seval,hL',hst,pa_ints] <;> (try simp) <;> (try omega)) (by simp only [lP,seval,hL',hst,pa_ints] <;> (try simp) <;> (try omega)))
  · have hie : i = h.length := by omega
    subst hie
    rw [List.take_length] at hn ht ⊢
    repeat' (first | (with_reducible apply St.o; constructor) <;> intro _ | (with_reducible first | refine LenR_i fun _ => ?_ | refine And.intro (by omega) ?_ | (apply Sp.o; constructor) | refine mkl_own ?_ | refine frz0_i ?_) | simp (maxSteps := 1000000) (disch := omega) only [lE,ptrCells,ptrAdd,isNil,readsV,readsP,isCall,wrote,srcOf,seval,List.length_map,Int.lt_irrefl,decide_false])
    have hvw := vwU_ints (H := [.arr 3 1 (a.map (AV.int .i64))]) (l := []) (n := 7) (E' := 3) hn
    exact keep_i [] true rfl (by simp) rfl ⟨by simp only [lP,seval,hvw,ht],by simp only [lP,seval]⟩
end Go.Proofs.Try


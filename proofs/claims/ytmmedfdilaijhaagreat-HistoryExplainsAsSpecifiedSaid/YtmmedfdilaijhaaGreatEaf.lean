/-
  A part of the proof: see the text of the law.
-/
import Derived.Test.YtmmedfdilaijhaaGreatEae
set_option linter.unusedSimpArgs false
set_option linter.unusedVariables false
namespace Go.Proofs.Try
open Go.Proofs.Tryz
open Go.Al
set_option maxRecDepth 100000
def mc31 : MC :=
(.seq (.ops [(none,.v (.mov 2 (.c (.raw (.map none)))))])
(.seq (.ops [(none,.e (.mkmap 6)),
(none,.v (.mov 3 (.t 6)))])
(.seq (.seq (.ops [(none,.v (.mov 7 (.t 0))),
(none,.p (.len 8 (.t 7))),
(none,.v (.mov 9 (.c (.int .i64 0))))])
(.block 0 (.loop (.seq (.ops [(none,.v (.bin 10 .lss false (.t 9) (.t 8)))])
(.seq (.cond 10
.skip
(.exit 0))
(.seq (.block 1 (.seq (.ops [(none,.v (.mov 11 (.t 9))),
(none,.p (.idx 12 5 (.t 7) (.t 9))),
(none,.v (.load 13 true 5 (.t 12))),
(none,.e (.alloc 5 [(.int .i64 0),(.int .i64 0),(.int .i64 0),(.raw (.slice none 0 0)),(.raw (.slice none 0 0))])),
(none,.v (.mov 4 (.t 11))),
(none,.e (.store 5 true (.t 5) (.t 13)))])
(.seq (.ops [(none,.v (.fld 14 0 (.t 5))),
(none,.v (.load 15 false 1 (.t 14))),
(none,.v (.bin 16 .eql false (.t 15) (.c (.int .i64 1))))])
(.cond 16
(.ops [(none,.v (.mov 17 (.t 3))),
(none,.v (.fld 18 1 (.t 5))),
(none,.v (.load 19 false 1 (.t 18))),
(none,.v (.mov 20 (.t 4))),
(none,.e (.mput (.int .i64) (.t 17) (.t 19) (.t 20)))])
.skip))))
(.ops [(none,.v (.bin 21 .add false (.t 9) (.c (.int .i64 1)))),
(none,.v (.mov 9 (.t 21)))])))))))
(.seq (.ops [(none,.v (.mov 22 (.t 3))),
(none,.v (.mov 2 (.t 22)))])
.ret))))
theorem ok31 : FnOk E 31 23 [.tmp 2] mc31 := .of func31 (by kernel_rfl) (by kernel_rfl) (by kernel_rfl) (by kernel_rfl) (by kernel_rfl)
end Go.Proofs.Try
namespace Go.Proofs.Try
open Go.Proofs.Tryz
open Go.Al
set_option linter.unusedVariables false
set_option linter.unusedSimpArgs false
set_option maxRecDepth 20000
set_option maxHeartbeats 8000000

section
variable {α : Type}
def getM (m : List (Int × α)) (r : Int) : Option α := (m.find? fun p => decide (p.1 = r)).map (·.2)
def setM : List (Int × α) → Int → α → List (Int × α)
  | [], r, v => [(r, v)]
  | p :: m, r, v => if p.1 = r then (r, v) :: m else p :: setM m r v
def delM : List (Int × α) → Int → List (Int × α)
  | [], _ => []
  | p :: m, r => if p.1 = r then m else p :: delM m r
theorem getM_cons (p : Int × α) (m : List (Int × α)) (r : Int) : getM (p :: m) r = if p.1 = r then some p.2 else getM m r := by
  unfold getM
  rw [List.find?_cons]
  by_cases h : p.1 = r <;> simp [h]
theorem getM_set (m : List (Int × α)) (r s : Int) (v : α) : getM (setM m r v) s = if s = r then some v else getM m s := by
  induction m with
  | nil =>
    rw [setM, getM_cons]
    by_cases h : s = r
    · simp [h]
    · have : ¬ r = s := fun e => h e.symm
      simp [h, this]
  | cons p m ih =>
    rw [setM]
    by_cases hp : p.1 = r
    · rw [if_pos hp, getM_cons, getM_cons]
      by_cases h : s = r
      · simp [h]
      · have h1 : ¬ r = s := fun e => h e.symm
        have h2 : ¬ p.1 = s := fun e => h (e.symm.trans hp)
        simp [h, h1, h2]
    · rw [if_neg hp, getM_cons, getM_cons, ih]
      by_cases h : s = r
      · subst h
        simp [hp]
      · simp [h]
def keysM (m : List (Int × α)) : List Int := m.map (·.1)
theorem getM_none {m : List (Int × α)} {r : Int} : getM m r = none ↔ r ∉ keysM m := by
  induction m with
  | nil => simp [getM, keysM]
  | cons p m ih =>
    rw [getM_cons]
    simp only [keysM,List.map_cons,List.mem_cons] at ih ⊢
    by_cases h : p.1 = r
    · simp [h]
    · have h' : ¬ r = p.1 := fun e => h e.symm
      simp [h, h', ih]
theorem keysM_set (m : List (Int × α)) (r : Int) (v : α) : keysM (setM m r v) = if r ∈ keysM m then keysM m else keysM m ++ [r] := by
  induction m with
  | nil => simp [setM, keysM]
  | cons p m ih =>
    rw [setM]
    by_cases hp : p.1 = r
    · simp [hp, keysM]
    · have hp' : ¬ r = p.1 := fun e => hp e.symm
      simp only [keysM,List.map_cons,List.mem_cons,if_neg hp,hp',false_or] at ih ⊢
      rw [ih]
      by_cases h : r ∈ m.map (fun x => x.1) <;> simp [h]
theorem find_m {r : Int} : ∀ (m : List (Int × α)) (i : Nat),
    (findK (.int .i64) (.int .i64 r) (m.map fun p => .int .i64 p.1) i = some none ∧ getM m r = none ∧ (∀ v, setM m r v = m ++ [(r, v)]) ∧ delM m r = m) ∨
    (∃ j p, findK (.int .i64) (.int .i64 r) (m.map fun p => .int .i64 p.1) i = some (some (i + j)) ∧ m[j]? = some p ∧ p.1 = r ∧ getM m r = some p.2 ∧ (∀ v, setM m r v = m.set j (r, v)) ∧ delM m r = m.eraseIdx j)
  | [], i => .inl ⟨rfl, rfl, fun _ => rfl, rfl⟩
  | p :: m, i => by
    rw [List.map_cons, findK]
    by_cases hp : p.1 = r
    · have hq : eqK (.int .i64) (.int .i64 r) (.int .i64 p.1) = some true := by simp [eqK, hp]
      rw [hq]
      refine .inr ⟨0, p, rfl, rfl, hp, by rw [getM_cons, if_pos hp], fun v => by rw [setM, if_pos hp]; rfl, by rw [delM, if_pos hp]; rfl⟩
    · have hq : eqK (.int .i64) (.int .i64 r) (.int .i64 p.1) = some false := by
        have : ¬ r = p.1 := fun e => hp e.symm
        simp [eqK, this]
      rw [hq]
      rcases find_m m (i + 1) with ⟨h1, h2, h3, h4⟩ | ⟨j, q, h1, h2, h3, h4, h5, h6⟩
      · exact .inl ⟨h1, by rw [getM_cons, if_neg hp, h2], fun v => by rw [setM, if_neg hp, h3]; rfl, by rw [delM, if_neg hp, h4]⟩
      · refine .inr ⟨j + 1, q, ?_, by simpa using h2, h3, by rw [getM_cons, if_neg hp, h4], fun v => by rw [setM, if_neg hp, h5]; rfl, by rw [delM, if_neg hp, h6]; rfl⟩
        simp only
        rw [h1]
        congr 2
        omega
def kM (m : List (Int × α)) : List AV := m.map fun p => .int .i64 p.1
def vM (f : α → AV) (m : List (Int × α)) : List AV := m.map fun p => f p.2
theorem look_m (f : α → AV) (z : AV) (m : List (Int × α)) (r : Int) : Al.look (.int .i64) z (kM m) (vM f m) (.int .i64 r) = some (match getM m r with | some v => (f v, true) | none => (z, false)) := by
  unfold Al.look kM vM
  rcases find_m (r := r) m 0 with ⟨h1, h2, _⟩ | ⟨j, p, h1, h2, h3, h4, _⟩
  · simp [keyIs, keysOk, h1, h2]
  · simp [keyIs, keysOk, h1, h2, h4]
theorem put_m (f : α → AV) (m : List (Int × α)) (bs : List Nat) (c : Nat) (r : Int) (v : α) : ∃ (bs' : List Nat) (c' : Nat), putK (.int .i64) (kM m) (vM f m) bs c (.int .i64 r) (f v) = some (.map (kM (setM m r v)) (vM f (setM m r v)) bs' c') := by
  unfold putK kM vM
  rcases find_m (r := r) m 0 with ⟨h1, h2, h3, _⟩ | ⟨j, p, h1, h2, h3, h4, h5, _⟩
  · refine ⟨bs ++ [c], c + 1, ?_⟩
    rw [h3]
    simp [keyIs, keysOk, h1]
  · refine ⟨bs, c, ?_⟩
    have e1 : (m.map fun p => AV.int .i64 p.1) = (m.set j (r, v)).map fun p => AV.int .i64 p.1 := by
      apply List.ext_getElem?
      intro n
      simp only [List.getElem?_map,List.getElem?_set]
      by_cases hn : j = n
      · subst hn
        obtain ⟨hj, _⟩ := List.getElem?_eq_some_iff.1 h2
        rw [h2]
        simp [hj, h3]
      · simp [hn]
    rw [h5, ← e1, List.map_set]
    simp [keyIs, keysOk, h1]
theorem map_erase {β : Type} (g : Int × α → β) : ∀ (m : List (Int × α)) (j : Nat), (m.eraseIdx j).map g = (m.map g).eraseIdx j
  | [], _ => rfl
  | p :: m, 0 => rfl
  | p :: m, j + 1 => by
    have := map_erase g m j
    simp only [List.eraseIdx_cons_succ,List.map_cons,this]
end
def asksM (h : List Hap) : List (Int × Int) := (h.zipIdx).foldl (fun m p => if p.1.k = 1 then setM m p.1.tx (p.2 : Int) else m) []
theorem asksM_next {h : List Hap} {i : Nat} (hi : i < h.length) : asksM (h.take (i + 1)) = if (h.getD i default).k = 1 then setM (asksM (h.take i)) (h.getD i default).tx (i : Int) else asksM (h.take i) := by
  rw [take_succD hi, asksM, List.zipIdx_append, List.foldl_append]
  have : (h.take i).length = i := by simp; omega
  simp [asksM, this]
theorem pa_kM {α : Type} {H : List AObj} {l : List Nat} {bor : Bool} {n : Nat} (m : List (Int × α)) : (kM m).map (pa H l bor (n + 1)) = kM m := by
  unfold kM
  rw [List.map_map]
  exact List.map_congr_left fun p _ => by simp [pa_int]
theorem pa_vI {H : List AObj} {l : List Nat} {bor : Bool} {n : Nat} (m : List (Int × Int)) : (vM (AV.int .i64) m).map (pa H l bor (n + 1)) = vM (AV.int .i64) m := by
  unfold vM
  rw [List.map_map]
  exact List.map_congr_left fun p _ => by simp [pa_int]
theorem c31 (h : List Hap) : ACalls E.P 31 [.view 5 (h.map Hap.av)] [] (fun r H => r = .mp 0 ∧ ∃ bs c, H = [.map (kM (asksM h)) (vM (AV.int .i64) (asksM h)) bs c]) := by
  have hmax := maxLen_eq
  refine ok31.acalls hE hm (by simp) fun N hN => ?_
  unfold mc31
  simp only [lA,ptrCells,ptrAdd,isNil,readsV,readsP,isCall,wrote,srcOf,seval]
  refine LenR_i fun hl => ?_
  rw [List.length_map, hmax] at hl
  simp only [lA,ptrCells,ptrAdd,isNil,readsV,readsP,isCall,wrote,srcOf,seval,List.length_map]
  refine loop_i (fun x : Nat × List Nat × Nat => x.1 ≤ h.length) (fun x => ⟨[(3, .mp 0),(7, .view 5 (h.map Hap.av)),(8, .int .i64 h.length),(9, .int .i64 x.1)], [.map (kM (asksM (h.take x.1))) (vM (AV.int .i64) (asksM (h.take x.1))) x.2.1 x.2.2]⟩) (fun x => h.length - x.1) (0, [], 0) (by simp) (Ent.to [0] false (by simp) (by simp) rfl (by simp only [lP,seval,List.take_zero,asksM,List.zipIdx_nil,List.foldl_nil,kM,vM,List.map_nil] <;> (try simp) <;> (try omega)) (by simp only [lP,seval,List.take_zero,asksM,List.zipIdx_nil,List.foldl_nil,kM,vM,List.map_nil] <;> (try simp) <;> (try omega))) ?_
  rintro ⟨i, bs, c⟩ hi
  simp only at hi ⊢
  by_cases hil : i < h.length
  · have hnx := asksM_next hil
    obtain ⟨bs', c', hput⟩ := put_m (AV.int .i64) (asksM (h.take i)) bs c (h.getD i default).tx (i : Int)
    generalize asksM (h.take i) = m at *
    generalize hx : h.getD i default = x at *
    repeat' (first | (with_reducible apply St.o; constructor) <;> intro _ | (with_reducible first | refine LenR_i fun _ => ?_ | refine And.intro (by omega) ?_ | (apply Sp.o; constructor) | refine mkl_own ?_ | refine frz0_i ?_) | simp (maxSteps := 1000000) (disch := omega) only [lE,ptrCells,ptrAdd,isNil,readsV,readsP,isCall,wrote,srcOf,seval,IdxR_haps,hx,Int.toNat_natCast,List.length_map,fillE,List.length_cons,List.length_nil,hput])
    all_goals try (exfalso; omega)
    · rename_i hk
      rw [if_pos hk] at hnx
      exact back_i (i + 1,bs',c') (by simp only; omega) (by simp only; omega) (Ent.to [0] false (by simp) (by simp) rfl (by simp only [lP,seval,hnx,pa_kM,pa_vI] <;> (try simp) <;> (try omega)) (by simp only [lP,seval,hnx,pa_kM,pa_vI] <;> (try simp) <;> (try omega)))
    · rename_i hk
      rw [if_neg hk] at hnx
      exact back_i (i + 1,bs,c) (by simp only; omega) (by simp only; omega) (Ent.to [0] false (by simp) (by simp) rfl (by simp only [lP,seval,hnx,pa_kM,pa_vI] <;> (try simp) <;> (try omega)) (by simp only [lP,seval,hnx,pa_kM,pa_vI] <;> (try simp) <;> (try omega)))
  · have hie : i = h.length := by omega
    subst hie
    rw [List.take_length]
    repeat' (first | (with_reducible apply St.o; constructor) <;> intro _ | (with_reducible first | refine LenR_i fun _ => ?_ | refine And.intro (by omega) ?_ | (apply Sp.o; constructor) | refine mkl_own ?_ | refine frz0_i ?_) | simp (maxSteps := 1000000) (disch := omega) only [lE,ptrCells,ptrAdd,isNil,readsV,readsP,isCall,wrote,srcOf,seval,List.length_map,Int.lt_irrefl,decide_false])
    exact keep_i [0] false (by simp) (by simp) rfl ⟨by simp only [lP,seval],bs,c,by simp only [lP,seval,pa_kM,pa_vI]⟩
end Go.Proofs.Try


/-
  A part of the proof: see the text of the law.
-/
import Derived.Test.YtmmedfdilaijhaaGreatEan
set_option linter.unusedSimpArgs false
set_option linter.unusedVariables false
namespace Go.Proofs.Try
open Go.Proofs.Tryz
open Go.Al
set_option maxRecDepth 100000
def mc43 : MC :=
(.seq (.ops [(none,.v (.mov 4 (.t 0))),
(none,.e (.rng 5 (.t 4)))])
(.block 0 (.loop (.seq (.ops [(none,.e (.nxt 6 (.t 5))),
(none,.v (.ext 7 0 (.t 6)))])
(.seq (.cond 7
.skip
(.exit 0))
(.block 1 (.seq (.ops [(none,.p (.ent 8 (.t 5))),
(none,.v (.ext 9 0 (.t 8))),
(none,.v (.ext 10 1 (.t 8))),
(none,.v (.mov 2 (.t 9))),
(none,.v (.mov 3 (.t 10)))])
(.seq (.ops [(none,.v (.mov 11 (.t 3))),
(none,.v (.bin 12 .eql false (.t 11) (.c (.int .i64 1))))])
(.cond 12
(.ops [(none,.v (.mov 13 (.t 0))),
(none,.v (.mov 14 (.t 2))),
(none,.e (.mput (.int .i64) (.t 13) (.t 14) (.c (.int .i64 4))))])
.skip)))))))))
theorem ok43 : FnOk E 43 15 [] mc43 := .of func43 (by kernel_rfl) (by kernel_rfl) (by kernel_rfl) (by kernel_rfl) (by kernel_rfl)
end Go.Proofs.Try
namespace Go.Proofs.Try
open Go.Proofs.Tryz
open Go.Al
set_option linter.unusedVariables false
set_option linter.unusedSimpArgs false
set_option maxRecDepth 20000
set_option maxHeartbeats 8000000

theorem nodup_len {α : Type} [DecidableEq α] : ∀ {A B : List α}, A.Nodup → (∀ x ∈ A, x ∈ B) → A.length ≤ B.length
  | [], _, _, _ => by simp
  | a :: A, B, h, hs => by
    obtain ⟨h1, h2⟩ := List.nodup_cons.1 h
    have ha : a ∈ B := hs a (by simp)
    have := nodup_len (B := B.erase a) h2 fun u hu => by
      have : u ≠ a := fun e => h1 (e ▸ hu)
      exact (List.mem_erase_of_ne this).2 (hs u (by simp [hu]))
    rw [List.length_erase_of_mem ha] at this
    have := List.length_pos_of_mem ha
    simp only [List.length_cons]
    omega
theorem po_mit {H : List AObj} {l : List Nat} {bor : Bool} {n id b d : Nat} {c : List Nat} : po H l bor n (.mit (some id) b c d) = match pos l id 0 with | some j => .mit (some j) b c d | none => .lost := rfl
theorem pa_itr {H : List AObj} {l : List Nat} {bor : Bool} {n id : Nat} : pa H l bor (n + 1) (.itr id) = match pos l id 0 with | some j => .itr j | none => .junk := rfl
theorem kM_keys {α β : Type} {a : List (Int × α)} {b : List (Int × β)} (h : keysM a = keysM b) : kM a = kM b := by
  have e : ∀ {γ : Type} (l : List (Int × γ)), kM l = (keysM l).map (AV.int .i64) := fun l => by
    unfold kM keysM; rw [List.map_map]; rfl
  rw [e, e, h]
theorem c43 (m : List (Int × Int)) (bs : List Nat) (c : Nat) (hw : WfM m.length bs c) (hk : (keysM m).Nodup) :
    ACalls E.P 43 [.mp 0] [.map (kM m) (vM (AV.int .i64) m) bs c] (fun r H => r = .tup [] ∧ H = [.map (kM m) (vM (AV.int .i64) (lostM m)) bs c]) := by
  have hmax := maxLen_eq
  refine ok43.acalls hE hm (by simp) fun N hN => ?_
  unfold mc43
  simp only [lA,ptrCells,ptrAdd,isNil,readsV,readsP,isCall,wrote,srcOf,seval]
  refine loop_i (fun seen : List Nat => seen.Nodup ∧ ∀ b ∈ seen,b ∈ bs) (fun seen => ⟨[(0, .mp 0),(5, .itr 1)], [.map (kM m) (vM (AV.int .i64) (lostS seen bs m)) bs c, .mit (some 0) c seen c]⟩) (fun seen => bs.length - seen.length) [] ⟨.nil,by simp⟩ (Ent.to [0, 1] false (by simp) (by simp) rfl (by simp only [lP,seval,po_mit,pa_itr,pa_kM,pa_vI,lostS_nil hw.len] <;> (try simp) <;> (try omega)) (by simp only [lP,seval,po_mit,pa_itr,pa_kM,pa_vI,lostS_nil hw.len] <;> (try simp) <;> (try omega))) ?_
  rintro seen ⟨hs1, hs2⟩
  have hkk := lostS_keys (seen := seen) hw.len
  repeat' (first | (with_reducible apply St.o; constructor) <;> intro _ | (with_reducible first | refine LenR_i fun _ => ?_ | refine And.intro (by omega) ?_ | (apply Sp.o; constructor) | refine mkl_own ?_ | refine frz0_i ?_) | simp (maxSteps := 1000000) (disch := omega) only [lE,ptrCells,ptrAdd,isNil,readsV,readsP,isCall,wrote,srcOf,seval])
  refine nxt_i hw.lt (Nat.le_refl _) (fun hall => ?_) (fun i b kx vx hb hns hkx hvx => ?_)
  · simp only [lA,ptrCells,ptrAdd,isNil,readsV,readsP,isCall,wrote,srcOf,seval]
    repeat' (first | (with_reducible apply St.o; constructor) <;> intro _ | (with_reducible first | refine LenR_i fun _ => ?_ | refine And.intro (by omega) ?_ | (apply Sp.o; constructor) | refine mkl_own ?_ | refine frz0_i ?_) | simp (maxSteps := 1000000) (disch := omega) only [lE,ptrCells,ptrAdd,isNil,readsV,readsP,isCall,wrote,srcOf,seval])
    rw [lostS_all hw.len hall]
    exact keep_i [0] false (by simp) (by simp) rfl ⟨by simp only [lP,seval],by simp only [lP,seval,pa_kM,pa_vI]⟩
  · obtain ⟨hi, e0⟩ := List.getElem?_eq_some_iff.1 hb
    have hi2 : i < m.length := by rw [← hw.len]; exact hi
    have hmi : m[i]? = some (m[i].1, m[i].2) := by rw [List.getElem?_eq_getElem hi2]
    have hs3 : (seen ++ [b]).Nodup := List.nodup_append.2 ⟨hs1, by simp, fun x hx y hy e => by
      rw [List.mem_singleton.1 hy] at e
      exact hns (e ▸ hx)⟩
    have hs4 : ∀ x ∈ seen ++ [b], x ∈ bs := fun x hx => by
      rcases List.mem_append.1 hx with hx | hx
      · exact hs2 x hx
      · rw [List.mem_singleton.1 hx, ← e0]; exact List.getElem_mem hi
    have hs5 := nodup_len hs3 hs4
    have hs6 : (seen ++ [b]).length = seen.length + 1 := by simp
    have hst := lostS_step hw.len hw.nodup hk hb hmi hns
    have hat := lostS_at seen bs m i
    rw [hb, hmi] at hat
    simp only [hns,false_and,if_false] at hat
    have hkx2 : kx = .int .i64 m[i].1 := by
      rw [kM, List.getElem?_map, hmi] at hkx
      cases hkx; rfl
    have hvx2 : vx = .int .i64 m[i].2 := by
      rw [vM, List.getElem?_map, hat] at hvx
      cases hvx; rfl
    subst hkx2 hvx2
    have hmem : m[i].1 ∈ keysM (lostS seen bs m) := by
      rw [hkk]
      exact List.mem_map.2 ⟨m[i], List.getElem_mem hi2, rfl⟩
    have hput := put_old (AV.int .i64) bs c (4 : Int) hmem
    rw [kM_keys hkk] at hput
    generalize m[i].1 = k at *
    generalize m[i].2 = v at *
    simp only [lA,ptrCells,ptrAdd,isNil,readsV,readsP,isCall,wrote,srcOf,seval]
    repeat' (first | (with_reducible apply St.o; constructor) <;> intro _ | (with_reducible first | refine LenR_i fun _ => ?_ | refine And.intro (by omega) ?_ | (apply Sp.o; constructor) | refine mkl_own ?_ | refine frz0_i ?_) | simp (maxSteps := 1000000) (disch := omega) only [lE,ptrCells,ptrAdd,isNil,readsV,readsP,isCall,wrote,srcOf,seval])
    refine ent_i i b rfl hb hkx hvx ?_
    simp only [lA,ptrCells,ptrAdd,isNil,readsV,readsP,isCall,wrote,srcOf,seval]
    repeat' (first | (with_reducible apply St.o; constructor) <;> intro _ | (with_reducible first | refine LenR_i fun _ => ?_ | refine And.intro (by omega) ?_ | (apply Sp.o; constructor) | refine mkl_own ?_ | refine frz0_i ?_) | simp (maxSteps := 1000000) (disch := omega) only [lE,ptrCells,ptrAdd,isNil,readsV,readsP,isCall,wrote,srcOf,seval,hput])
    · rename_i hv
      rw [if_pos hv] at hst
      exact back_i (seen ++ [b]) ⟨hs3,hs4⟩ (by omega) (Ent.to [0, 1] false (by simp) (by simp) rfl (by simp only [lP,seval,hst,po_mit,pa_itr,pa_kM,pa_vI] <;> (try simp) <;> (try omega)) (by simp only [lP,seval,hst,po_mit,pa_itr,pa_kM,pa_vI] <;> (try simp) <;> (try omega)))
    · rename_i hv
      rw [if_neg hv] at hst
      exact back_i (seen ++ [b]) ⟨hs3,hs4⟩ (by omega) (Ent.to [0, 1] false (by simp) (by simp) rfl (by simp only [lP,seval,hst,po_mit,pa_itr,pa_kM,pa_vI] <;> (try simp) <;> (try omega)) (by simp only [lP,seval,hst,po_mit,pa_itr,pa_kM,pa_vI] <;> (try simp) <;> (try omega)))
end Go.Proofs.Try


namespace Go.Proofs.Try
open Go.Proofs.Tryz
open Go.Al
set_option linter.unusedVariables false
set_option linter.unusedSimpArgs false
set_option maxRecDepth 20000
set_option maxHeartbeats 8000000

theorem asked_snoc (h : List Hap) (x : Hap) (tx : Int) : asked (h ++ [x]) tx = if 0 ≤ asked h tx then asked h tx else if isAsk tx x = true then (h.length : Int) else -1 := by
  unfold asked
  rw [List.findIdx?_append]
  cases h.findIdx? (isAsk tx) with
  | some i => simp
  | none =>
    by_cases hp : isAsk tx x = true
    · simp [List.findIdx?_cons, hp]
    · simp [List.findIdx?_cons, hp]
theorem isOpen_snoc (h : List Hap) (x : Hap) (tx : Int) : isOpen (h ++ [x]) tx = if 0 ≤ asked h tx then (isOpen h tx && !closes tx x) else isAsk tx x := by
  unfold asked isOpen
  rw [List.findIdx?_append]
  cases hf : h.findIdx? (isAsk tx) with
  | some i =>
    obtain ⟨hi, _⟩ := List.findIdx?_eq_some_iff_getElem.1 hf
    simp only [Option.some_or,Int.natCast_nonneg,if_true]
    rw [List.drop_append_of_le_length (by omega)]
    rw [Bool.eq_iff_iff]
    simp only [decide_eq_true_eq,List.mem_append,List.mem_singleton,Bool.and_eq_true,Bool.not_eq_true']
    constructor
    · intro q
      exact ⟨fun y hy => q y (.inl hy), q x (.inr rfl)⟩
    · rintro ⟨q1, q2⟩ y (hy | rfl)
      · exact q1 y hy
      · exact q2
  | none =>
    by_cases hp : isAsk tx x = true
    · have hk : closes tx x = false := by
        simp only [isAsk,Bool.and_eq_true,decide_eq_true_eq] at hp
        simp [closes, hp.1]
      simp [List.findIdx?_cons, hp, hk]
    · simp [List.findIdx?_cons, hp]
theorem open_asked {h : List Hap} {tx : Int} (ho : isOpen h tx = true) : 0 ≤ asked h tx := by
  unfold isOpen at ho
  unfold asked
  cases hf : h.findIdx? (isAsk tx) with
  | some i => simp
  | none => rw [hf] at ho; cases ho
def evB (h : List Hap) (x : Hap) : Bool :=
  if x.k = 1 then decide (1 ≤ x.tx) && (decide (asked h x.tx < 0) && writesOk x.ws)
  else if x.k = 2 then isOpen h x.tx && (numb x.st && decide (latest h < x.st))
  else if x.k = 3 then isOpen h x.tx
  else if x.k = 5 then decide (0 ≤ x.st) && (decide (x.st ≤ 1073741824) && rowsOk x.rs x.st)
  else decide (x.k = 4)
theorem eventOk_eq (h : List Hap) (x : Hap) : eventOk h x = (plainB x && evB h x) := by
  obtain ⟨k, tx, st, ws, rs⟩ := x
  have z : ∀ n : Nat, (0 < n) = ¬ n = 0 := fun n => by apply propext; omega
  have hcase : k = 1 ∨ k = 2 ∨ k = 3 ∨ k = 4 ∨ k = 5 ∨ (¬ k = 1 ∧ ¬ k = 2 ∧ ¬ k = 3 ∧ ¬ k = 4 ∧ ¬ k = 5) := by omega
  unfold eventOk plainB evB
  rcases hcase with rfl | rfl | rfl | rfl | rfl | ⟨k1, k2, k3, k4, k5⟩
  all_goals
    simp only [z, *,ne_eq,not_true_eq_false,false_and,or_false,false_or,true_and,reduceCtorEq,if_false,if_true,not_false_eq_true,decide_true,decide_false,Bool.and_true,Bool.false_and,Bool.true_and,Bool.and_false,or_self,and_true,true_or,or_true,and_false,
      show ¬ (1 : Int) = 5 by decide, show ¬ (2 : Int) = 1 by decide, show ¬ (2 : Int) = 5 by decide, show ¬ (1 : Int) = 2 by decide, show ¬ (1 : Int) = 4 by decide, show ¬ (2 : Int) = 4 by decide, show ¬ (3 : Int) = 1 by decide, show ¬ (3 : Int) = 2 by decide, show ¬ (3 : Int) = 5 by decide, show ¬ (3 : Int) = 4 by decide, show ¬ (4 : Int) = 1 by decide, show ¬ (4 : Int) = 2 by decide, show ¬ (4 : Int) = 3 by decide, show ¬ (4 : Int) = 5 by decide, show ¬ (5 : Int) = 1 by decide, show ¬ (5 : Int) = 2 by decide, show ¬ (5 : Int) = 3 by decide, show ¬ (5 : Int) = 4 by decide]
  all_goals
    by_cases a1 : ws.length = 0 <;> by_cases a2 : rs.length = 0 <;> by_cases a3 : st = 0 <;> by_cases a4 : tx = 0 <;> simp [a1, a2, a3, a4]
theorem getM_lost (m : List (Int × Int)) (r : Int) : getM (lostM m) r = (getM m r).map fun v => if v = 1 then 4 else v := by
  induction m with
  | nil => rfl
  | cons p m ih =>
    have e : lostM (p :: m) = (if p.2 = 1 then (p.1, 4) else p) :: lostM m := rfl
    rw [e, getM_cons, getM_cons, ih]
    by_cases hp : p.1 = r <;> by_cases hv : p.2 = 1 <;> simp [hp, hv]
theorem keys_lost (m : List (Int × Int)) : keysM (lostM m) = keysM m := by
  unfold keysM lostM
  rw [List.map_map]
  refine List.map_congr_left fun p _ => ?_
  simp only [Function.comp]
  split <;> rfl
theorem keys_set_nodup {α : Type} {m : List (Int × α)} {r : Int} {v : α} (h : (keysM m).Nodup) : (keysM (setM m r v)).Nodup := by
  rw [keysM_set]
  split
  · exact h
  · rename_i hn
    exact List.nodup_append.2 ⟨h, by simp, fun a ha b hb e => by
      rw [List.mem_singleton.1 hb] at e
      exact hn (e ▸ ha)⟩
structure StOk (h : List Hap) (m : List (Int × Int)) : Prop where
  nodup : (keysM m).Nodup
  none : ∀ tx, getM m tx = none ↔ asked h tx < 0
  one : ∀ tx, getM m tx = some 1 ↔ isOpen h tx = true
  pos : ∀ tx v, getM m tx = some v → v ≠ 0
theorem StOk.nil : StOk [] [] := ⟨.nil, fun tx => ⟨fun _ => by simp [asked], fun _ => rfl⟩, fun tx => ⟨fun h => by simp [getM] at h, fun h => by simp [isOpen] at h⟩, fun tx v h => by simp [getM] at h⟩
theorem StOk.ask {h : List Hap} {m : List (Int × Int)} {x : Hap} (s : StOk h m) (hk : x.k = 1) (ha : asked h x.tx < 0) : StOk (h ++ [x]) (setM m x.tx 1) := by
  have hc : ∀ tx, closes tx x = false := fun tx => by simp [closes, hk]
  refine ⟨keys_set_nodup s.nodup, fun tx => ?_, fun tx => ?_, fun tx v hv => ?_⟩
  · rw [getM_set, asked_snoc]
    by_cases e : tx = x.tx
    · rw [e, if_pos rfl, if_neg (by omega), if_pos (by simp [isAsk, hk])]
      simp
    · have e' : ¬ x.tx = tx := fun q => e q.symm
      rw [if_neg e, s.none, show isAsk tx x = false by simp [isAsk, e']]
      simp
      split <;> omega
  · rw [getM_set, isOpen_snoc, hc, Bool.not_false, Bool.and_true]
    by_cases e : tx = x.tx
    · rw [e, if_pos rfl, if_neg (by omega)]
      simp [isAsk, hk]
    · have e' : ¬ x.tx = tx := fun q => e q.symm
      rw [if_neg e, s.one, show isAsk tx x = false by simp [isAsk, e']]
      split
      · rfl
      · rename_i hn
        constructor
        · intro q
          exact absurd (open_asked q) hn
        · intro q; cases q
  · rw [getM_set] at hv
    split at hv
    · cases hv; decide
    · exact s.pos tx v hv
theorem StOk.shut {h : List Hap} {m : List (Int × Int)} {x : Hap} {c : Int} (s : StOk h m) (hk : x.k = 2 ∨ x.k = 3) (ha : isOpen h x.tx = true) (hc0 : c ≠ 0) (hc1 : c ≠ 1) : StOk (h ++ [x]) (setM m x.tx c) := by
  have hna : ∀ tx, isAsk tx x = false := fun tx => by rcases hk with hk | hk <;> simp [isAsk, hk]
  have hcl : ∀ tx, closes tx x = decide (x.tx = tx) := fun tx => by rcases hk with hk | hk <;> simp [closes, hk]
  refine ⟨keys_set_nodup s.nodup, fun tx => ?_, fun tx => ?_, fun tx v hv => ?_⟩
  · rw [getM_set, asked_snoc, hna]
    by_cases e : tx = x.tx
    · have := open_asked ha
      rw [e, if_pos rfl, if_pos this]
      simp
      omega
    · rw [if_neg e, s.none]
      simp
      split <;> omega
  · rw [getM_set, isOpen_snoc, hcl, hna]
    by_cases e : tx = x.tx
    · rw [e, if_pos rfl]
      simp [hc1]
    · have e' : ¬ x.tx = tx := fun q => e q.symm
      rw [if_neg e, s.one, decide_eq_false e', Bool.not_false, Bool.and_true]
      split
      · rfl
      · rename_i hn
        constructor
        · intro q
          exact absurd (open_asked q) hn
        · intro q; cases q
  · rw [getM_set] at hv
    split at hv
    · cases hv; exact hc0
    · exact s.pos tx v hv
theorem StOk.lost {h : List Hap} {m : List (Int × Int)} {x : Hap} (s : StOk h m) (hk : x.k = 4) : StOk (h ++ [x]) (lostM m) := by
  have hna : ∀ tx, isAsk tx x = false := fun tx => by simp [isAsk, hk]
  have hcl : ∀ tx, closes tx x = true := fun tx => by simp [closes, hk]
  refine ⟨by rw [keys_lost]; exact s.nodup, fun tx => ?_, fun tx => ?_, fun tx v hv => ?_⟩
  · rw [getM_lost, asked_snoc, hna, Option.map_eq_none_iff, s.none]
    simp
    split <;> omega
  · rw [getM_lost, isOpen_snoc, hcl, hna]
    cases hg : getM m tx with
    | none => simp
    | some v => by_cases hv : v = 1 <;> simp [hv]
  · rw [getM_lost] at hv
    cases hg : getM m tx with
    | none => rw [hg] at hv; cases hv
    | some u =>
      rw [hg] at hv
      have := s.pos tx u hg
      simp only [Option.map_some,Option.some.injEq] at hv
      subst hv
      split
      · decide
      · exact this
theorem StOk.see {h : List Hap} {m : List (Int × Int)} {x : Hap} (s : StOk h m) (hk : x.k = 5) : StOk (h ++ [x]) m := by
  have hna : ∀ tx, isAsk tx x = false := fun tx => by simp [isAsk, hk]
  have hcl : ∀ tx, closes tx x = false := fun tx => by simp [closes, hk]
  refine ⟨s.nodup, fun tx => ?_, fun tx => ?_, s.pos⟩
  · rw [asked_snoc, hna, s.none]
    simp
    split <;> omega
  · rw [isOpen_snoc, hcl, hna, s.one, Bool.not_false, Bool.and_true]
    split
    · rfl
    · rename_i hn
      constructor
      · intro q
        exact absurd (open_asked q) hn
      · intro q; cases q
theorem StOk.look {h : List Hap} {m : List (Int × Int)} (s : StOk h m) (tx : Int) : ∃ (is : Int) (b : Bool), Al.look (.int .i64) (.int .i64 0) (kM m) (vM (AV.int .i64) m) (.int .i64 tx) = some (.int .i64 is, b) ∧ (is = 0 ↔ asked h tx < 0) ∧ (is = 1 ↔ isOpen h tx = true) := by
  rw [look_m]
  have h1 := s.none tx
  have h2 := s.one tx
  cases hg : getM m tx with
  | none =>
    rw [hg] at h1 h2
    refine ⟨0, false, rfl, by simpa using h1, ?_⟩
    simp at h2
    simp [h2]
  | some v =>
    rw [hg] at h1 h2
    have := s.pos tx v hg
    refine ⟨v, true, rfl, ?_, by simpa using h2⟩
    simp at h1
    constructor
    · intro q; exact absurd q this
    · intro q; omega
theorem wf_put {α : Type} (f : α → AV) {m : List (Int × α)} {bs : List Nat} {c : Nat} (hw : WfM m.length bs c) (r : Int) (v : α) : ∃ (bs' : List Nat) (c' : Nat), putK (.int .i64) (kM m) (vM f m) bs c (.int .i64 r) (f v) = some (.map (kM (setM m r v)) (vM f (setM m r v)) bs' c') ∧ WfM (setM m r v).length bs' c' := by
  by_cases hr : r ∈ keysM m
  · refine ⟨bs, c, ?_, ?_⟩
    · rw [put_old f bs c v hr, kM_keys (a := setM m r v) (b := m) (by rw [keysM_set, if_pos hr])]
    · have := congrArg List.length (keysM_set m r v)
      rw [if_pos hr] at this
      simp only [keysM,List.length_map] at this
      rw [this]; exact hw
  · have e : setM m r v = m ++ [(r, v)] := by
      rcases find_m (r := r) m 0 with ⟨_, _, h3, _⟩ | ⟨j, p, _, _, _, h4, _⟩
      · exact h3 v
      · rw [getM_none.2 hr] at h4; cases h4
    refine ⟨bs ++ [c], c + 1, ?_, ?_⟩
    · rw [put_new f bs c v hr, e]
    · rw [e, List.length_append]; exact hw.snoc
theorem wf_lost {m : List (Int × Int)} {bs : List Nat} {c : Nat} (hw : WfM m.length bs c) : WfM (lostM m).length bs c := by
  rw [lostM, List.length_map]; exact hw
end Go.Proofs.Try


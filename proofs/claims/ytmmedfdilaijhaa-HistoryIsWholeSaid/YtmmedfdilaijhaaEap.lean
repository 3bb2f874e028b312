/-
  A part of the proof: see the text of the law.
-/
import Derived.Test.YtmmedfdilaijhaaEan
set_option linter.unusedSimpArgs false
set_option linter.unusedVariables false
namespace Go.Proofs.Try
open Go.Al
set_option maxRecDepth 100000
/-- alum/history.fail -/
def mc28 : MC :=
 (.seq (.ops [(none, (.v (.mov 4 (.t 0)))),
 (none, (.e (.rng 5 (.t 4))))])
 (.block 0 (.loop (.seq (.ops [(none, (.e (.nxt 6 (.t 5)))),
 (none, (.v (.ext 7 0 (.t 6))))])
 (.seq (.cond 7
 .skip
 (.exit 0))
 (.block 1 (.seq (.ops [(none, (.p (.ent 8 (.t 5)))),
 (none, (.v (.ext 9 0 (.t 8)))),
 (none, (.v (.ext 10 1 (.t 8)))),
 (none, (.v (.mov 2 (.t 9)))),
 (none, (.v (.mov 3 (.t 10))))])
 (.seq (.ops [(none, (.v (.mov 11 (.t 3)))),
 (none, (.v (.bin 12 .eql false (.t 11) (.c (.int .i64 1)))))])
 (.cond 12
 (.ops [(none, (.v (.mov 13 (.t 0)))),
 (none, (.v (.mov 14 (.t 2)))),
 (none, (.e (.mput (.int .i64) (.t 13) (.t 14) (.c (.int .i64 4)))))])
 .skip)))))))))
theorem ok28 : FnOk E 28 15 [] mc28 := .of func28 (by kernel_rfl) (by kernel_rfl) (by kernel_rfl) (by kernel_rfl) (by kernel_rfl)
end Go.Proofs.Try
namespace Go.Proofs.Try
open Go.Al
set_option linter.unusedVariables false
set_option linter.unusedSimpArgs false
set_option maxRecDepth 20000
set_option maxHeartbeats 8000000

theorem nodup_len {α : Type} [DecidableEq α] : ∀ {A B : List α}, A.Nodup → (∀ x ∈ A, x ∈ B) → A.length ≤ B.length
  | [], _, _, _ => by simp
  | a :: A, B, h, hs => by
    obtain ⟨h1, h2⟩ := List.nodup_cons.1 h
    have ha : a ∈ B := hs a (by simp)
    have := nodup_len (B := B.erase a) h2 fun u hu => by
      have : u ≠ a := fun e => h1 (e ▸ hu)
      exact (List.mem_erase_of_ne this).2 (hs u (by simp [hu]))
    rw [List.length_erase_of_mem ha] at this
    have := List.length_pos_of_mem ha
    simp only [List.length_cons]
    omega
theorem po_mit {H : List AObj} {l : List Nat} {bor : Bool} {n id b d : Nat} {c : List Nat} : po H l bor n (.mit (some id) b c d) = match pos l id 0 with | some j => .mit (some j) b c d | none => .lost := rfl
theorem pa_itr {H : List AObj} {l : List Nat} {bor : Bool} {n id : Nat} : pa H l bor (n + 1) (.itr id) = match pos l id 0 with | some j => .itr j | none => .junk := rfl
theorem kM_keys {α β : Type} {a : List (Int × α)} {b : List (Int × β)} (h : keysM a = keysM b) : kM a = kM b := by
  have e : ∀ {γ : Type} (l : List (Int × γ)), kM l = (keysM l).map (AV.int .i64) := fun l => by
    unfold kM keysM; rw [List.map_map]; rfl
  rw [e, e, h]
theorem c28 (m : List (Int × Int)) (bs : List Nat) (c : Nat) (hw : WfM m.length bs c) (hk : (keysM m).Nodup) :
    ACalls E.P 28 [.mp 0] [.map (kM m) (vM (AV.int .i64) m) bs c] (fun r H => r = .tup [] ∧ H = [.map (kM m) (vM (AV.int .i64) (lostM m)) bs c]) := by
  have hmax := maxLen_eq
  refine ok28.acalls hE hm (by simp) fun N hN => ?_
  unfold mc28
  simp only [lA, ptrCells, ptrAdd, isNil, readsV, readsP, isCall, wrote, srcOf, seval]
  refine loop_i (fun seen : List Nat => seen.Nodup ∧ ∀ b ∈ seen, b ∈ bs) (fun seen => ⟨[(0, .mp 0), (5, .itr 1)], [.map (kM m) (vM (AV.int .i64) (lostS seen bs m)) bs c, .mit (some 0) c seen c]⟩) (fun seen => bs.length - seen.length) [] ⟨.nil, by simp⟩ (Ent.to [0, 1] false (by simp) (by simp) rfl (by simp only [lP, seval, po_mit, pa_itr, pa_kM, pa_vI, lostS_nil hw.len] <;> (try simp) <;> (try omega)) (by simp only [lP, seval, po_mit, pa_itr, pa_kM, pa_vI, lostS_nil hw.len] <;> (try simp) <;> (try omega))) ?_
  rintro seen ⟨hs1, hs2⟩
  have hkk := lostS_keys (seen := seen) hw.len
  repeat' (first
   | (with_reducible apply St.o; constructor) <;> intro _
   | with_reducible first | refine LenR_i fun _ => ?_ | refine And.intro (by omega) ?_ | (apply Sp.o; constructor) | refine mkl_own ?_ | refine frz0_i ?_
   | simp (maxSteps := 1000000) (disch := omega) only [lE, ptrCells, ptrAdd, isNil, readsV, readsP, isCall, wrote, srcOf, seval])
  refine nxt_i hw.lt (Nat.le_refl _) (fun hall => ?_) (fun i b kx vx hb hns hkx hvx => ?_)
  · simp only [lA, ptrCells, ptrAdd, isNil, readsV, readsP, isCall, wrote, srcOf, seval]
    repeat' (first
     | (with_reducible apply St.o; constructor) <;> intro _
     | with_reducible first | refine LenR_i fun _ => ?_ | refine And.intro (by omega) ?_ | (apply Sp.o; constructor) | refine mkl_own ?_ | refine frz0_i ?_
     | simp (maxSteps := 1000000) (disch := omega) only [lE, ptrCells, ptrAdd, isNil, readsV, readsP, isCall, wrote, srcOf, seval])
    rw [lostS_all hw.len hall]
    exact keep_i [0] false (by simp) (by simp) rfl ⟨by simp only [lP, seval], by simp only [lP, seval, pa_kM, pa_vI]⟩
  · obtain ⟨hi, e0⟩ := List.getElem?_eq_some_iff.1 hb
    have hi2 : i < m.length := by rw [← hw.len]; exact hi
    have hmi : m[i]? = some (m[i].1, m[i].2) := by rw [List.getElem?_eq_getElem hi2]
    have hs3 : (seen ++ [b]).Nodup := List.nodup_append.2 ⟨hs1, by simp, fun x hx y hy e => by
      rw [List.mem_singleton.1 hy] at e
      exact hns (e ▸ hx)⟩
    have hs4 : ∀ x ∈ seen ++ [b], x ∈ bs := fun x hx => by
      rcases List.mem_append.1 hx with hx | hx
      · exact hs2 x hx
      · rw [List.mem_singleton.1 hx, ← e0]; exact List.getElem_mem hi
    have hs5 := nodup_len hs3 hs4
    have hs6 : (seen ++ [b]).length = seen.length + 1 := by simp
    have hst := lostS_step hw.len hw.nodup hk hb hmi hns
    have hat := lostS_at seen bs m i
    rw [hb, hmi] at hat
    simp only [hns, false_and, if_false] at hat
    have hkx2 : kx = .int .i64 m[i].1 := by
      rw [kM, List.getElem?_map, hmi] at hkx
      cases hkx; rfl
    have hvx2 : vx = .int .i64 m[i].2 := by
      rw [vM, List.getElem?_map, hat] at hvx
      cases hvx; rfl
    subst hkx2 hvx2
    have hmem : m[i].1 ∈ keysM (lostS seen bs m) := by
      rw [hkk]
      exact List.mem_map.2 ⟨m[i], List.getElem_mem hi2, rfl⟩
    have hput := put_old (AV.int .i64) bs c (4 : Int) hmem
    rw [kM_keys hkk] at hput
    generalize m[i].1 = k at *
    generalize m[i].2 = v at *
    simp only [lA, ptrCells, ptrAdd, isNil, readsV, readsP, isCall, wrote, srcOf, seval]
    repeat' (first
     | (with_reducible apply St.o; constructor) <;> intro _
     | with_reducible first | refine LenR_i fun _ => ?_ | refine And.intro (by omega) ?_ | (apply Sp.o; constructor) | refine mkl_own ?_ | refine frz0_i ?_
     | simp (maxSteps := 1000000) (disch := omega) only [lE, ptrCells, ptrAdd, isNil, readsV, readsP, isCall, wrote, srcOf, seval])
    refine ent_i i b rfl hb hkx hvx ?_
    simp only [lA, ptrCells, ptrAdd, isNil, readsV, readsP, isCall, wrote, srcOf, seval]
    repeat' (first
     | (with_reducible apply St.o; constructor) <;> intro _
     | with_reducible first | refine LenR_i fun _ => ?_ | refine And.intro (by omega) ?_ | (apply Sp.o; constructor) | refine mkl_own ?_ | refine frz0_i ?_
     | simp (maxSteps := 1000000) (disch := omega) only [lE, ptrCells, ptrAdd, isNil, readsV, readsP, isCall, wrote, srcOf, seval, hput])
    · rename_i hv
      rw [if_pos hv] at hst
      exact back_i (seen ++ [b]) ⟨hs3, hs4⟩ (by omega) (Ent.to [0, 1] false (by simp) (by simp) rfl (by simp only [lP, seval, hst, po_mit, pa_itr, pa_kM, pa_vI] <;> (try simp) <;> (try omega)) (by simp only [lP, seval, hst, po_mit, pa_itr, pa_kM, pa_vI] <;> (try simp) <;> (try omega)))
    · rename_i hv
      rw [if_neg hv] at hst
      exact back_i (seen ++ [b]) ⟨hs3, hs4⟩ (by omega) (Ent.to [0, 1] false (by simp) (by simp) rfl (by simp only [lP, seval, hst, po_mit, pa_itr, pa_kM, pa_vI] <;> (try simp) <;> (try omega)) (by simp only [lP, seval, hst, po_mit, pa_itr, pa_kM, pa_vI] <;> (try simp) <;> (try omega)))
end Go.Proofs.Try

/-
  A part of the proof: see the text of the law.
-/
import Derived.Test.YtjiijjfpmaligaaDoorCaf
set_option linter.unusedSimpArgs false
set_option linter.unusedVariables false
namespace Go.Proofs.Try
open Go.Al
set_option linter.unusedVariables false
set_option linter.unusedSimpArgs false
set_option maxRecDepth 20000
set_option maxHeartbeats 8000000

abbrev ksV (ks : List Int) : AV := .view 1 (ks.map (AV.int .i64))
theorem ar_cases {op : Int} {n : Nat} (h : (n : Int) = ar op) : (n = 0 ∧ (op = 1 ∨ op = 2)) ∨ (n = 1 ∧ (op = 14 ∨ op = 15)) ∨ (n = 2 ∧ 3 ≤ op ∧ op ≤ 13) := by
  unfold ar at h
  (repeat' split at h) <;> omega
def prK (x : Int × Int) : AV := .int .i64 x.1
theorem vw_prK {H : List AObj} {l : List Nat} {n : Nat} {xs : List (Int × Int)} : (xs.map prK).map (vw H l (n + 1)) = xs.map prK := map_same (fun _ => vw_int) xs
theorem pa_prK {H : List AObj} {l : List Nat} {bor : Bool} {n : Nat} {xs : List (Int × Int)} : (xs.map prK).map (pa H l bor (n + 1)) = xs.map prK := map_same (fun _ => pa_int) xs

theorem c76n (ks : List Int) (e : EX) (rs : List (Int × Int)) (hlen : rs.length = e.args.length) (har : (e.args.length : Int) = ar e.op)
    (hrec : ∀ j, j < e.args.length → ACalls E.P 76 [ksV ks, (e.args.getD j default).av] [] (fun r H => r = .tup [.int .i64 (rs.getD j default).1, .int .i64 (rs.getD j default).2] ∧ H = [])) :
    ACalls E.P 76 [ksV ks, e.av] [] (fun r H => r = .tup [.int .i64 (knode ks e rs).1, .int .i64 (knode ks e rs).2] ∧ H = []) := by
  have hmax := maxLen_eq
  have hsh := ar_cases har
  refine ok76.acalls hE hm (by simp) fun N hN => ?_
  unfold mc76
  simp only [lA, ptrCells, ptrAdd, isNil, readsV, readsP, isCall, wrote, srcOf, seval, av_fs]
  refine loop_i (fun i : Nat => i ≤ e.args.length ∧ ∀ j, j < i → (rs.getD j default).2 = 0) (fun i => ⟨[(0, ksV ks), (3, .op 0 0), (6, .slc 1 1 i), (7, .int .i64 i)], [.box e.fs, .arr 3 1 ((rs.take i).map prK)]⟩) (fun i => e.args.length - i) 0 ⟨by omega, by omega⟩
    (Ent.ghost' 6 3 1 (by omega) rfl (Ent.to [0,1] false (by simp) (by simp) rfl (by simp only [lP, seval, pa_prK] <;> (try simp) <;> (try omega)) (by simp only [lP, seval, pa_prK] <;> (try simp) <;> (try omega)))) ?_
  rintro i ⟨hi, ha⟩
  by_cases hin : i < e.args.length
  · have hrec := hrec i hin
    simp only [av_fs] at hrec
    have hlt : ((i : Int) < (e.args.length : Int)) := by omega
    repeat' (first
     | (with_reducible apply St.o; constructor) <;> intro _
     | with_reducible first | refine LenR_i fun _ => ?_ | refine And.intro (by omega) ?_ | (apply Sp.o; constructor) | refine frz0_i ?_
     | ((with_reducible apply Sc.o true; constructor); simp only [lP, seval, IdxR_exs, Int.toNat_natCast, List.length_map, pa_prK, vw_prK, hlt, decide_true]; refine ⟨_, hrec, ?_⟩; rintro _ _ ⟨rfl, rfl⟩; simp only [lA, lP, ptrCells, ptrAdd, isNil, readsV, readsP, isCall, wrote, srcOf, seval, IdxR_exs, Int.toNat_natCast, List.length_map, pa_prK, vw_prK, hlt, decide_true])
     | ((with_reducible refine keep0_i ?_); simp only [lP, seval])
     | simp (maxSteps := 1000000) (disch := omega) only [lE, ptrCells, ptrAdd, isNil, readsV, readsP, isCall, wrote, srcOf, seval, IdxR_exs, Int.toNat_natCast, List.length_map, pa_prK, vw_prK, hlt, decide_true])
    · rename_i h2
      have := ferr_at (l := rs) ha (by omega) h2
      simp only [knode, this, if_neg h2]
    · rename_i h2
      have hl : (rs.take i).length = i := by simp; omega
      refine ⟨by omega, by omega, by omega, back_i (i + 1) ⟨by omega, fun j hj => ?_⟩ (by omega) ?_⟩
      · by_cases hji : j < i
        · exact ha j hji
        · obtain rfl : j = i := by omega
          exact h2
      · have ht : (rs.take (i + 1)).map prK = (rs.take i).map prK ++ [.int .i64 (rs.getD i default).1] := by
          rw [List.take_succ_eq_append_getElem (show i < rs.length by omega), List.map_append]
          simp [prK, show i < rs.length by omega]
        rw [ht]
        exact (Ent.to [0,3] false (by simp) (by simp) rfl (by simp only [lP, seval, pa_prK, hl, List.map_append] <;> (try simp) <;> (try omega)) (by simp only [lP, seval, pa_prK, hl, List.map_append] <;> (try simp) <;> (try omega)))
  · have hie : i = rs.length := by omega
    subst hie
    have hf : ferr rs = 0 := ferr_none ha
    have hk : knode ks e rs = kN ks e.op e.n e.val (rs.map (·.1)) := by rw [knode, if_pos hf]
    have h21 := c21 e.val
    have h58 := c58 e.op
    have h64 := c64 e.op
    rw [hk]
    simp only [List.take_length]
    simp only [vl_av] at h21
    clear hrec hk hf ha
    have hl0 : e.args.length = rs.length := hlen.symm
    have hcases : (rs.length = 0 ∧ e.op = 1) ∨ (rs.length = 0 ∧ e.op = 2) ∨ e.op = 15 ∨ (rs.length = 2 ∧ cmpB e.op = true ∧ e.op ≠ 1 ∧ e.op ≠ 2 ∧ ariB e.op = false) ∨ (cmpB e.op = false ∧ e.op ≠ 1 ∧ e.op ≠ 2 ∧ e.op ≠ 15) := by
      simp only [cmpB, ariB, decide_eq_true_eq, decide_eq_false_iff_not]; omega
    rcases hcases with ⟨h0, hop⟩ | ⟨h0, hop⟩ | hop | ⟨h0, hop, ho1, ho2, ho3⟩ | ⟨hop, ho1, ho2, ho3⟩
    · obtain rfl : rs = [] := List.eq_nil_of_length_eq_zero (by omega)
      repeat' (first
       | (with_reducible apply St.o; constructor) <;> intro _
       | with_reducible first | refine LenR_i fun _ => ?_ | refine And.intro (by omega) ?_ | (apply Sp.o; constructor) | refine frz0_i ?_
       | ((with_reducible refine keep0_i ?_); simp only [lP, seval])
       | simp (maxSteps := 1000000) (disch := omega) only [lE, ptrCells, ptrAdd, isNil, readsV, readsP, isCall, wrote, srcOf, seval, List.length_map, hop, hl0, Int.lt_irrefl, List.length_nil, List.length_cons, Int.ofNat_zero, decide_false, decide_true])
      all_goals clear h21 h58 h64
      all_goals (simp only [kN, if_true])
      all_goals first | (rw [if_pos (by omega)]; done) | (rw [if_neg (by omega)]; done)
    · obtain rfl : rs = [] := List.eq_nil_of_length_eq_zero (by omega)
      repeat' (first
       | (with_reducible apply St.o; constructor) <;> intro _
       | with_reducible first | refine LenR_i fun _ => ?_ | refine And.intro (by omega) ?_ | (apply Sp.o; constructor) | refine frz0_i ?_
       | ((with_reducible apply Sc.o true; constructor); simp only [lP, seval, List.length_map, hop, hl0, Int.lt_irrefl, List.length_nil, List.length_cons, Int.ofNat_zero, decide_false, decide_true]; refine ⟨_, h21, ?_⟩; rintro _ _ ⟨rfl, rfl⟩; simp only [lA, lP, ptrCells, ptrAdd, isNil, readsV, readsP, isCall, wrote, srcOf, seval, List.length_map, hop, hl0, Int.lt_irrefl, List.length_nil, List.length_cons, Int.ofNat_zero, decide_false, decide_true])
       | ((with_reducible refine keep0_i ?_); simp only [lP, seval])
       | simp (maxSteps := 1000000) (disch := omega) only [lE, ptrCells, ptrAdd, isNil, readsV, readsP, isCall, wrote, srcOf, seval, List.length_map, hop, hl0, Int.lt_irrefl, List.length_nil, List.length_cons, Int.ofNat_zero, decide_false, decide_true])
      all_goals clear h21 h58 h64
      all_goals (rename_i h; simp [kN, h])
    · have hc : cmpB e.op = false := by rw [hop]; rfl
      rw [hop] at h58 hc
      repeat' (first
       | (with_reducible apply St.o; constructor) <;> intro _
       | with_reducible first | refine LenR_i fun _ => ?_ | refine And.intro (by omega) ?_ | (apply Sp.o; constructor) | refine frz0_i ?_
       | ((with_reducible apply Sc.o true; constructor); simp only [lP, seval, List.length_map, hop, hc, hl0, Int.lt_irrefl, List.length_nil, List.length_cons, Int.ofNat_zero, decide_false, decide_true]; refine ⟨_, h58, ?_⟩; rintro _ _ ⟨rfl, rfl⟩; simp only [lA, lP, ptrCells, ptrAdd, isNil, readsV, readsP, isCall, wrote, srcOf, seval, List.length_map, hop, hc, hl0, Int.lt_irrefl, List.length_nil, List.length_cons, Int.ofNat_zero, decide_false, decide_true])
       | ((with_reducible refine keep0_i ?_); simp only [lP, seval])
       | simp (maxSteps := 1000000) (disch := omega) only [lE, ptrCells, ptrAdd, isNil, readsV, readsP, isCall, wrote, srcOf, seval, List.length_map, hop, hc, hl0, Int.lt_irrefl, List.length_nil, List.length_cons, Int.ofNat_zero, decide_false, decide_true])
      all_goals (simp [kN, ariB, cmpB])
    · obtain ⟨x, y, rfl⟩ : ∃ x y, rs = [x, y] := by
        rcases rs with _ | ⟨x, _ | ⟨y, _ | _⟩⟩ <;> simp at h0
        exact ⟨x, y, rfl⟩
      simp only [List.map_cons, List.map_nil, prK]
      repeat' (first
       | (with_reducible apply St.o; constructor) <;> intro _
       | with_reducible first | refine LenR_i fun _ => ?_ | refine And.intro (by omega) ?_ | (apply Sp.o; constructor) | refine frz0_i ?_
       | ((with_reducible apply Sc.o true; constructor); simp only [lP, seval, epR_cons, List.length_map, hop, ho1, ho2, hl0, Int.lt_irrefl, List.length_nil, List.length_cons, Int.ofNat_zero, decide_false, decide_true]; refine ⟨_, h58, ?_⟩; rintro _ _ ⟨rfl, rfl⟩; simp only [lA, lP, ptrCells, ptrAdd, isNil, readsV, readsP, isCall, wrote, srcOf, seval, epR_cons, List.length_map, hop, ho1, ho2, hl0, Int.lt_irrefl, List.length_nil, List.length_cons, Int.ofNat_zero, decide_false, decide_true])
       | ((with_reducible refine keep0_i ?_); simp only [lP, seval])
       | simp (maxSteps := 1000000) (disch := omega) only [lE, ptrCells, ptrAdd, isNil, readsV, readsP, isCall, wrote, srcOf, seval, epR_cons, List.length_map, hop, ho1, ho2, hl0, Int.lt_irrefl, List.length_nil, List.length_cons, Int.ofNat_zero, decide_false, decide_true])
      all_goals clear h21 h58 h64
      all_goals (simp [kN, ho1, ho2, ho3, hop, okK])
      all_goals first | (rw [if_pos (by omega)]; simp; done) | (rw [if_neg (by omega)]; simp; done)
    · generalize hw : (if ariB e.op = true then (1 : Int) else 3) = want
      rw [hop] at h58
      have hkn : kN ks e.op e.n e.val (rs.map (·.1)) = if (rs.map (·.1)).all (okK want) = true then (want, 0) else (0, 7) := by
        simp only [kN, if_neg ho1, if_neg ho2, if_neg ho3, hop]
        cases hA : ariB e.op <;> simp [hA] at hw <;> subst hw <;> simp
      have hget : ∀ j : Nat, j < rs.length → (rs.map prK)[j]? = some (.int .i64 (rs.getD j default).1) := fun j hj => by simp [hj, prK]
      rw [hkn]
      repeat' (first
       | (with_reducible apply St.o; constructor) <;> intro _
       | with_reducible first | refine LenR_i fun _ => ?_ | refine And.intro (by omega) ?_ | (apply Sp.o; constructor) | refine frz0_i ?_
       | ((with_reducible apply Sc.o true; constructor); simp only [lP, seval, List.length_map, hop, ho1, ho2, ho3, hl0, Int.lt_irrefl, List.length_nil, List.length_cons, Int.ofNat_zero, decide_false, decide_true]; (first | refine ⟨_, h58, ?_⟩ | refine ⟨_, h64, ?_⟩); rintro _ _ ⟨rfl, rfl⟩; simp only [lA, lP, ptrCells, ptrAdd, isNil, readsV, readsP, isCall, wrote, srcOf, seval, List.length_map, hop, ho1, ho2, ho3, hl0, Int.lt_irrefl, List.length_nil, List.length_cons, Int.ofNat_zero, decide_false, decide_true])
       | ((with_reducible refine keep0_i ?_); simp only [lP, seval])
       | simp (maxSteps := 1000000) (disch := omega) only [lE, ptrCells, ptrAdd, isNil, readsV, readsP, isCall, wrote, srcOf, seval, List.length_map, hop, ho1, ho2, ho3, hl0, Int.lt_irrefl, List.length_nil, List.length_cons, Int.ofNat_zero, decide_false, decide_true])
      all_goals
        rename_i hA
        simp [hA] at hw
        clear h58 h64 h21
        refine loop_i (fun j : Nat => j ≤ rs.length ∧ ((rs.map (·.1)).take j).all (okK want) = true) (fun j => ⟨[(3, .op 0 0), (6, .slc 1 1 rs.length), (11, .int .i64 want), (12, .int .i64 j)], [.box e.fs, .arr 3 1 (rs.map prK)]⟩) (fun j => rs.length - j) 0 ⟨by omega, by simp⟩ (Ent.to [0,1] false (by simp) (by simp) rfl (by simp only [lP, seval, pa_prK] <;> (try simp) <;> (try omega)) (by simp only [lP, seval, pa_prK] <;> (try simp) <;> (try omega))) ?_
        rintro j ⟨hj, hall⟩
        by_cases hjn : j < rs.length
        · have hgj := hget j hjn
          have hlt : ((j : Int) < (rs.length : Int)) := by omega
          have hep : ∀ {m N d c}, epR E.P m N (some (.arr 3 1 (rs.map prK))) (j : Int) rs.length 1 1 d c = rK E.P m N c d (.ep 1 1 j 0) := by
            intros; rw [epR_ne (by simp) (by omega) (by omega)]; simp
          repeat' (first
           | (with_reducible apply St.o; constructor) <;> intro _
           | with_reducible first | refine LenR_i fun _ => ?_ | refine And.intro (by omega) ?_ | (apply Sp.o; constructor) | refine frz0_i ?_
           | ((with_reducible refine keep0_i ?_); simp only [lP, seval])
           | simp (maxSteps := 1000000) (disch := omega) only [lE, ptrCells, ptrAdd, isNil, readsV, readsP, isCall, wrote, srcOf, seval, hlt, hep, hgj, List.length_map, decide_true])
          all_goals clear hgj hep hget
          all_goals first
            | (rename_i k1 k2
               rw [all_not (p := okK want) (l := rs.map (·.1)) (i := j) (by simpa using hjn) 0 (by simp [okK, hjn] at k1 k2 ⊢; omega)]
               simp; done)
            | (refine back_i (j + 1) ⟨by omega, all_take (p := okK want) (l := rs.map (·.1)) (by simpa using hjn) 0 hall (by simp [okK, hjn] at *; omega)⟩ (by omega) (Ent.to [0,1] false (by simp) (by simp) rfl (by simp only [lP, seval, pa_prK] <;> (try simp) <;> (try omega)) (by simp only [lP, seval, pa_prK] <;> (try simp) <;> (try omega))))
            | trace_state
        · have hje : j = rs.length := by omega
          subst hje
          rw [List.take_of_length_le (by simp)] at hall
          repeat' (first
           | (with_reducible apply St.o; constructor) <;> intro _
           | with_reducible first | refine LenR_i fun _ => ?_ | refine And.intro (by omega) ?_ | (apply Sp.o; constructor) | refine frz0_i ?_
           | ((with_reducible refine keep0_i ?_); simp only [lP, seval])
           | simp (maxSteps := 1000000) (disch := omega) only [lE, ptrCells, ptrAdd, isNil, readsV, readsP, isCall, wrote, srcOf, seval, List.length_map, Int.lt_irrefl, decide_false])
          all_goals (simp [hall]; try omega)
end Go.Proofs.Try

namespace Go.Proofs.Try
open Go.Al
set_option linter.unusedVariables false
set_option linter.unusedSimpArgs false
set_option maxRecDepth 20000
set_option maxHeartbeats 8000000

theorem c63n (ks : List Int) (e : EX) (rs : List (Int × Int)) (hv : inI e.val.n) (hlen : rs.length = e.args.length) (har : (e.args.length : Int) = ar e.op)
    (hrec : ∀ j, j < e.args.length → ACalls E.P 63 [ksV ks, (e.args.getD j default).av] [] (fun r H => r = .tup [.int .i64 (rs.getD j default).1, .int .i64 (rs.getD j default).2] ∧ H = [])) :
    ACalls E.P 63 [ksV ks, e.av] [] (fun r H => r = .tup [.int .i64 (knode ks e rs).1, .int .i64 (knode ks e rs).2] ∧ H = []) := by
  have hmax := maxLen_eq
  have hsh := ar_cases har
  refine ok63.acalls hE hm (by simp) fun N hN => ?_
  unfold mc63
  simp only [lA, ptrCells, ptrAdd, isNil, readsV, readsP, isCall, wrote, srcOf, seval, av_fs]
  refine LenR_i fun hll => ?_
  rw [List.length_map, hmax] at hll
  simp only [lA, ptrCells, ptrAdd, isNil, readsV, readsP, isCall, wrote, srcOf, seval, List.length_map]
  refine loop_i (fun i : Nat => i ≤ e.args.length ∧ ∀ j, j < i → (rs.getD j default).2 = 0) (fun i => ⟨[(0, ksV ks), (3, .op 0 0), (6, .op 1 0), (13, .view 6 (e.args.map EX.av)), (14, .int .i64 e.args.length), (15, .int .i64 i)], if i = 0 then [.box e.fs, .box [.raw (.slice none 0 0)]] else [.box e.fs, .box [.slc 2 1 i], .arr 3 1 ((rs.take i).map prK)]⟩) (fun i => e.args.length - i) 0 ⟨by omega, by omega⟩
    (by simp only [if_true]; exact (Ent.to [0,1] false (by simp) (by simp) rfl (by simp only [lP, seval, pa_prK] <;> (try simp) <;> (try omega)) (by simp only [lP, seval, pa_prK] <;> (try simp) <;> (try omega)))) ?_
  rintro i ⟨hi, ha⟩
  by_cases hin : i < e.args.length
  · have hrec := hrec i hin
    simp only [av_fs] at hrec
    have hlt : ((i : Int) < (e.args.length : Int)) := by omega
    have hl : (rs.take i).length = i := by simp; omega
    have fin : (rs.getD i default).2 ≠ 0 → knode ks e rs = (0, (rs.getD i default).2) := fun h2 => by
      have := ferr_at (l := rs) ha (by omega) h2
      simp only [knode, this, if_neg h2]
    have ht : (rs.take (i + 1)).map prK = (rs.take i).map prK ++ [.int .i64 (rs.getD i default).1] := by
      rw [List.take_succ_eq_append_getElem (show i < rs.length by omega), List.map_append]
      simp [prK, show i < rs.length by omega]
    have nx : (rs.getD i default).2 = 0 → ∀ j, j < i + 1 → (rs.getD j default).2 = 0 := fun h2 j hj => by
      by_cases hji : j < i
      · exact ha j hji
      · obtain rfl : j = i := by omega
        exact h2
    by_cases hi0 : i = 0
    · subst hi0
      have hlt0 : ((0 : Int) < (e.args.length : Int)) := by omega
      simp only [if_true]
      repeat' (first
       | (with_reducible apply St.o; constructor) <;> intro _
       | with_reducible first | refine LenR_i fun _ => ?_ | refine And.intro (by omega) ?_ | (apply Sp.o; constructor) | refine frz0_i ?_
       | ((with_reducible apply Sc.o true; constructor); simp only [lP, seval, IdxR_exs, Int.toNat_natCast, List.length_map, pa_prK, vw_prK, hlt0, decide_true]; refine ⟨_, hrec, ?_⟩; rintro _ _ ⟨rfl, rfl⟩; simp only [lA, lP, ptrCells, ptrAdd, isNil, readsV, readsP, isCall, wrote, srcOf, seval, IdxR_exs, Int.toNat_natCast, List.length_map, pa_prK, vw_prK, hlt0, decide_true])
       | ((with_reducible refine keep0_i ?_); simp only [lP, seval])
       | simp (maxSteps := 1000000) (disch := omega) only [lE, ptrCells, ptrAdd, isNil, readsV, readsP, isCall, wrote, srcOf, seval, IdxR_exs, Int.toNat_natCast, List.length_map, pa_prK, vw_prK, hlt0, decide_true])
      · rename_i h2
        rw [fin h2]
      · rename_i h2
        refine back_i 1 ⟨by omega, nx h2⟩ (by omega) ?_
        rw [if_neg (by omega)]
        simp only [Nat.zero_add] at ht
        rw [ht]
        exact (Ent.to [0,1,4] false (by simp) (by simp) rfl (by simp only [lP, seval, pa_prK, hl, List.map_append] <;> (try simp) <;> (try omega)) (by simp only [lP, seval, pa_prK, hl, List.map_append] <;> (try simp) <;> (try omega)))
    · simp only [if_neg hi0]
      repeat' (first
       | (with_reducible apply St.o; constructor) <;> intro _
       | with_reducible first | refine LenR_i fun _ => ?_ | refine And.intro (by omega) ?_ | (apply Sp.o; constructor) | refine frz0_i ?_
       | ((with_reducible apply Sc.o true; constructor); simp only [lP, seval, IdxR_exs, Int.toNat_natCast, List.length_map, pa_prK, vw_prK, hlt, decide_true]; refine ⟨_, hrec, ?_⟩; rintro _ _ ⟨rfl, rfl⟩; simp only [lA, lP, ptrCells, ptrAdd, isNil, readsV, readsP, isCall, wrote, srcOf, seval, IdxR_exs, Int.toNat_natCast, List.length_map, pa_prK, vw_prK, hlt, decide_true])
       | ((with_reducible refine keep0_i ?_); simp only [lP, seval])
       | simp (maxSteps := 1000000) (disch := omega) only [lE, ptrCells, ptrAdd, isNil, readsV, readsP, isCall, wrote, srcOf, seval, IdxR_exs, Int.toNat_natCast, List.length_map, pa_prK, vw_prK, hlt, decide_true])
      · rename_i h2
        rw [fin h2]
      · rename_i h2
        refine back_i (i + 1) ⟨by omega, nx h2⟩ (by omega) ?_
        rw [if_neg (by omega), ht]
        exact (Ent.to [0,1,5] false (by simp) (by simp) rfl (by simp only [lP, seval, pa_prK, hl, List.map_append] <;> (try simp) <;> (try omega)) (by simp only [lP, seval, pa_prK, hl, List.map_append] <;> (try simp) <;> (try omega)))
  · have hie : i = rs.length := by omega
    subst hie
    have hf : ferr rs = 0 := ferr_none ha
    have hk : knode ks e rs = kN ks e.op e.n e.val (rs.map (·.1)) := by rw [knode, if_pos hf]
    have h92 := c92 e.val hv
    have h53 := c53 e.op
    have h93 := c93 e.op
    rw [hk]
    simp only [List.take_length]
    simp only [vl_av] at h92
    clear hrec hk hf ha
    have hl0 : e.args.length = rs.length := hlen.symm
    rcases hsh with ⟨h0, hop⟩ | ⟨h0, hop⟩ | ⟨h0, hop⟩
    · obtain rfl : rs = [] := List.eq_nil_of_length_eq_zero (by omega)
      simp only [List.length_nil, if_true]
      rcases hop with hop | hop
      · repeat' (first
         | (with_reducible apply St.o; constructor) <;> intro _
         | with_reducible first | refine LenR_i fun _ => ?_ | refine And.intro (by omega) ?_ | (apply Sp.o; constructor) | refine frz0_i ?_
         | ((with_reducible refine keep0_i ?_); simp only [lP, seval])
         | simp (maxSteps := 1000000) (disch := omega) only [lE, ptrCells, ptrAdd, isNil, readsV, readsP, isCall, wrote, srcOf, seval, List.length_map, hop, hl0, Int.lt_irrefl, List.length_nil, List.length_cons, Int.ofNat_zero, decide_false, decide_true])
        all_goals clear h92 h53 h93
        all_goals (simp only [kN, if_true])
        all_goals first | (rw [if_pos (by omega)]; done) | (rw [if_neg (by omega)]; done)
      · repeat' (first
         | (with_reducible apply St.o; constructor) <;> intro _
         | with_reducible first | refine LenR_i fun _ => ?_ | refine And.intro (by omega) ?_ | (apply Sp.o; constructor) | refine frz0_i ?_
         | ((with_reducible apply Sc.o true; constructor); simp only [lP, seval, List.length_map, hop, hl0, Int.lt_irrefl, List.length_nil, List.length_cons, Int.ofNat_zero, decide_false, decide_true]; refine ⟨_, h92, ?_⟩; rintro _ _ ⟨rfl, rfl⟩; simp only [lA, lP, ptrCells, ptrAdd, isNil, readsV, readsP, isCall, wrote, srcOf, seval, List.length_map, hop, hl0, Int.lt_irrefl, List.length_nil, List.length_cons, Int.ofNat_zero, decide_false, decide_true])
         | ((with_reducible refine keep0_i ?_); simp only [lP, seval])
         | simp (maxSteps := 1000000) (disch := omega) only [lE, ptrCells, ptrAdd, isNil, readsV, readsP, isCall, wrote, srcOf, seval, List.length_map, hop, hl0, Int.lt_irrefl, List.length_nil, List.length_cons, Int.ofNat_zero, decide_false, decide_true])
        all_goals clear h92 h53 h93
        all_goals (rename_i h; simp [kN, h])
    · obtain ⟨x, rfl⟩ : ∃ x, rs = [x] := by
        rcases rs with _ | ⟨x, _ | ⟨z, t⟩⟩
        · rw [h0] at hl0; simp at hl0
        · exact ⟨x, rfl⟩
        · rw [h0] at hl0; simp at hl0
      have h89 : ∀ w, ACalls E.P 89 [.int .i64 w, .vp [.view 1 [.int .i64 x.1]]] [] (fun r H => r = .bool ([x.1].all (okK w)) ∧ H = []) := c89 [x.1]
      simp only [List.length_cons, List.length_nil, List.map_cons, List.map_nil, prK]
      rcases hop with hop | hop
      · have hc : cmpB e.op = false := by rw [hop]; rfl
        have hd : ariB e.op = false := by rw [hop]; rfl
        rw [hop] at h53 h93 hc hd
        repeat' (first
         | (with_reducible apply St.o; constructor) <;> intro _
         | with_reducible first | refine LenR_i fun _ => ?_ | refine And.intro (by omega) ?_ | (apply Sp.o; constructor) | refine frz0_i ?_
         | ((with_reducible apply Sc.o true; constructor); simp only [lP, seval, List.length_map, hop, hc, hd, hl0, Int.lt_irrefl, List.length_nil, List.length_cons, Int.ofNat_zero, decide_false, decide_true]; (first | refine ⟨_, h89 _, ?_⟩ | refine ⟨_, h53, ?_⟩ | refine ⟨_, h93, ?_⟩); rintro _ _ ⟨rfl, rfl⟩; simp only [lA, lP, ptrCells, ptrAdd, isNil, readsV, readsP, isCall, wrote, srcOf, seval, List.length_map, hop, hc, hd, hl0, Int.lt_irrefl, List.length_nil, List.length_cons, Int.ofNat_zero, decide_false, decide_true])
         | ((with_reducible refine keep0_i ?_); simp only [lP, seval])
         | simp (maxSteps := 1000000) (disch := omega) only [lE, ptrCells, ptrAdd, isNil, readsV, readsP, isCall, wrote, srcOf, seval, List.length_map, hop, hc, hd, hl0, Int.lt_irrefl, List.length_nil, List.length_cons, Int.ofNat_zero, decide_false, decide_true])
        all_goals clear h89 h92 h53 h93
        all_goals (rename_i h; simp only [Bool.not_eq_true', Bool.not_eq_false'] at h; simp [kN, hc, hd, h])
      · have hc : cmpB e.op = false := by rw [hop]; rfl
        have hd : ariB e.op = false := by rw [hop]; rfl
        rw [hop] at h53 h93 hc hd
        repeat' (first
         | (with_reducible apply St.o; constructor) <;> intro _
         | with_reducible first | refine LenR_i fun _ => ?_ | refine And.intro (by omega) ?_ | (apply Sp.o; constructor) | refine frz0_i ?_
         | ((with_reducible apply Sc.o true; constructor); simp only [lP, seval, List.length_map, hop, hc, hd, hl0, Int.lt_irrefl, List.length_nil, List.length_cons, Int.ofNat_zero, decide_false, decide_true]; (first | refine ⟨_, h89 _, ?_⟩ | refine ⟨_, h53, ?_⟩ | refine ⟨_, h93, ?_⟩); rintro _ _ ⟨rfl, rfl⟩; simp only [lA, lP, ptrCells, ptrAdd, isNil, readsV, readsP, isCall, wrote, srcOf, seval, List.length_map, hop, hc, hd, hl0, Int.lt_irrefl, List.length_nil, List.length_cons, Int.ofNat_zero, decide_false, decide_true])
         | ((with_reducible refine keep0_i ?_); simp only [lP, seval])
         | simp (maxSteps := 1000000) (disch := omega) only [lE, ptrCells, ptrAdd, isNil, readsV, readsP, isCall, wrote, srcOf, seval, List.length_map, hop, hc, hd, hl0, Int.lt_irrefl, List.length_nil, List.length_cons, Int.ofNat_zero, decide_false, decide_true])
        all_goals clear h89 h92 h53 h93
        all_goals simp [kN, hc, hd]
    · obtain ⟨x, y, rfl⟩ : ∃ x y, rs = [x, y] := by
        rcases rs with _ | ⟨x, _ | ⟨y, _ | ⟨z, t⟩⟩⟩
        · rw [h0] at hl0; simp at hl0
        · rw [h0] at hl0; simp at hl0
        · exact ⟨x, y, rfl⟩
        · rw [h0] at hl0; simp at hl0
      have h89 : ∀ w, ACalls E.P 89 [.int .i64 w, .vp [.view 1 [.int .i64 x.1, .int .i64 y.1]]] [] (fun r H => r = .bool ([x.1, y.1].all (okK w)) ∧ H = []) := c89 [x.1, y.1]
      have ho1 : e.op ≠ 1 := by omega
      have ho2 : e.op ≠ 2 := by omega
      have ho3 : e.op ≠ 15 := by omega
      simp only [List.length_cons, List.length_nil, List.map_cons, List.map_nil, prK]
      repeat' (first
       | (with_reducible apply St.o; constructor) <;> intro _
       | with_reducible first | refine LenR_i fun _ => ?_ | refine And.intro (by omega) ?_ | (apply Sp.o; constructor) | refine frz0_i ?_
       | ((with_reducible apply Sc.o true; constructor); simp only [lP, seval, epR_cons, List.length_map, ho1, ho2, ho3, hl0, Int.lt_irrefl, List.length_nil, List.length_cons, Int.ofNat_zero, decide_false, decide_true]; (first | refine ⟨_, h89 _, ?_⟩ | refine ⟨_, h53, ?_⟩ | refine ⟨_, h93, ?_⟩); rintro _ _ ⟨rfl, rfl⟩; simp only [lA, lP, ptrCells, ptrAdd, isNil, readsV, readsP, isCall, wrote, srcOf, seval, epR_cons, List.length_map, ho1, ho2, ho3, hl0, Int.lt_irrefl, List.length_nil, List.length_cons, Int.ofNat_zero, decide_false, decide_true])
       | ((with_reducible refine keep0_i ?_); simp only [lP, seval])
       | simp (maxSteps := 1000000) (disch := omega) only [lE, ptrCells, ptrAdd, isNil, readsV, readsP, isCall, wrote, srcOf, seval, epR_cons, List.length_map, ho1, ho2, ho3, hl0, Int.lt_irrefl, List.length_nil, List.length_cons, Int.ofNat_zero, decide_false, decide_true])
      all_goals clear h89 h92 h53 h93
      all_goals simp only [kN, if_neg ho1, if_neg ho2, if_neg ho3, List.map_cons, List.map_nil]
      all_goals clear hlen hi hin hl0 h0 har hll
      all_goals clear hv hmax hN hop ho1 ho2 ho3
      all_goals simp only [Bool.not_eq_true', Bool.not_eq_false', Bool.not_true, List.all_cons, List.all_nil, Bool.and_true, List.getD_cons_zero, List.getD_cons_succ] at *
      all_goals simp only [*, if_true, Bool.false_eq_true, if_false, or_self, or_true, true_or, or_false, false_or]
end Go.Proofs.Try

namespace Go.Proofs.Try
open Go.Al
set_option linter.unusedVariables false
set_option linter.unusedSimpArgs false
set_option maxRecDepth 20000
set_option maxHeartbeats 4000000

/-! ### trees of well-formed nodes -/
inductive T where
  | col (n : Int)
  | val (v : VL)
  | un (op : Int) (a : T)
  | bin (op : Int) (a b : T)
instance : Inhabited T := ⟨.col 0⟩
def T.ex : T → EX
  | .col n => .mk 1 n 0 0 ⟨#[]⟩ []
  | .val v => .mk 2 0 v.k v.n v.s []
  | .un op a => .mk op 0 0 0 ⟨#[]⟩ [a.ex]
  | .bin op a b => .mk op 0 0 0 ⟨#[]⟩ [a.ex, b.ex]
def T.wf : T → Prop
  | .col _ => True
  | .val _ => True
  | .un op a => (op = 14 ∨ op = 15) ∧ a.wf
  | .bin op a b => (3 ≤ op ∧ op ≤ 13) ∧ a.wf ∧ b.wf
/-- All values are so. -/
def T.vals (p : VL → Prop) : T → Prop
  | .col _ => True
  | .val v => p v
  | .un _ a => a.vals p
  | .bin _ a b => a.vals p ∧ b.vals p
def T.size : T → Nat
  | .col _ => 1
  | .val _ => 1
  | .un _ a => 1 + a.size
  | .bin _ a b => 1 + a.size + b.size
theorem T.count_ex : ∀ t : T, t.ex.count = t.size
  | .col _ => rfl
  | .val _ => rfl
  | .un _ a => by simp [T.ex, EX.count, EX.countL, T.size, T.count_ex a]
  | .bin _ a b => by simp [T.ex, EX.count, EX.countL, T.size, T.count_ex a, T.count_ex b]; omega
def T.kind (ks : List Int) : T → Int × Int
  | .col n => kN ks 1 n VL.null []
  | .val v => kN ks 2 0 v []
  | .un op a => if (a.kind ks).2 = 0 then kN ks op 0 VL.null [(a.kind ks).1] else (0, (a.kind ks).2)
  | .bin op a b => if (a.kind ks).2 = 0 then (if (b.kind ks).2 = 0 then kN ks op 0 VL.null [(a.kind ks).1, (b.kind ks).1] else (0, (b.kind ks).2)) else (0, (a.kind ks).2)

def mkT (op n : Int) (v : VL) : List T → T
  | [] => if op = 1 then .col n else .val v
  | [a] => .un op a
  | a :: b :: _ => .bin op a b
mutual
def EX.tr : EX → T
  | .mk op n k i s args => mkT op n ⟨k, i, s⟩ (EX.trL args)
def EX.trL : List EX → List T
  | [] => []
  | e :: es => e.tr :: EX.trL es
end
theorem tr_ex : ∀ t : T, t.ex.tr = t
  | .col _ => by simp [T.ex, EX.tr, EX.trL, mkT]
  | .val v => by simp [T.ex, EX.tr, EX.trL, mkT]
  | .un _ a => by simp [T.ex, EX.tr, EX.trL, mkT, tr_ex a]
  | .bin _ a b => by simp [T.ex, EX.tr, EX.trL, mkT, tr_ex a, tr_ex b]
mutual
def EX.okI : EX → Prop
  | .mk op n k i s args => inI i ∧ EX.okIL args
def EX.okIL : List EX → Prop
  | [] => True
  | e :: es => e.okI ∧ EX.okIL es
end
theorem fm_mk {op n k i : Int} {s : ByteArray} {args : List EX} : (EX.mk op n k i s args).fm = true ↔ (args.length : Int) = ar op ∧ (n = 0 ∨ op = 1) ∧ ((k = 0 ∧ i = 0 ∧ s = ⟨#[]⟩) ∨ op = 2) := by
  unfold EX.fm
  simp only [Bool.and_eq_true, Bool.or_eq_true, decide_eq_true_eq, and_assoc]
  exact Iff.rfl
theorem ar1 {op : Int} (h : op = 14 ∨ op = 15) : ar op = 1 := by unfold ar; (repeat' split) <;> omega
theorem ar2 {op : Int} (h : 3 ≤ op ∧ op ≤ 13) : ar op = 2 := by unfold ar; (repeat' split) <;> omega
/-- What is well-formed everywhere is a tree. -/
theorem ex_tr : ∀ e : EX, e.formed = true → e.tr.ex = e ∧ e.tr.wf ∧ (e.okI → e.tr.vals fun v => inI v.n)
  | .mk op n k i s args, h => by
    rw [EX.formed, Bool.and_eq_true, fm_mk] at h
    obtain ⟨⟨h1, h2, h3⟩, h4⟩ := h
    have har := ar_cases h1
    match args, h4 with
    | [], _ =>
      simp at har
      rcases har with rfl | rfl
      · have h3 : k = 0 ∧ i = 0 ∧ s = ⟨#[]⟩ := by simpa using h3
        obtain ⟨rfl, rfl, rfl⟩ := h3
        simp [EX.tr, EX.trL, mkT, T.ex, T.wf, T.vals]
      · have h2 : n = 0 := by simpa using h2
        subst h2
        simp [EX.tr, EX.trL, mkT, T.ex, T.wf, T.vals, EX.okI, EX.okIL]
    | [a], h4 =>
      simp at har
      simp only [EX.formedL, Bool.and_true] at h4
      obtain ⟨ih1, ih2, ih3⟩ := ex_tr a h4
      have hn : n = 0 := by omega
      have h3 : k = 0 ∧ i = 0 ∧ s = ⟨#[]⟩ := by rcases h3 with h3 | h3; exact h3; omega
      obtain ⟨rfl, rfl, rfl⟩ := h3
      subst hn
      simp only [EX.tr, EX.trL, mkT, T.ex, T.wf, T.vals, EX.okI, EX.okIL, ih1]
      exact ⟨trivial, ⟨har, ih2⟩, fun h => ih3 h.2.1⟩
    | [a, b], h4 =>
      simp at har
      simp only [EX.formedL, Bool.and_true, Bool.and_eq_true] at h4
      obtain ⟨ih1, ih2, ih3⟩ := ex_tr a h4.1
      obtain ⟨ih4, ih5, ih6⟩ := ex_tr b h4.2
      have hn : n = 0 := by omega
      have h3 : k = 0 ∧ i = 0 ∧ s = ⟨#[]⟩ := by rcases h3 with h3 | h3; exact h3; omega
      obtain ⟨rfl, rfl, rfl⟩ := h3
      subst hn
      simp only [EX.tr, EX.trL, mkT, T.ex, T.wf, T.vals, EX.okI, EX.okIL, ih1, ih4]
      exact ⟨trivial, ⟨har, ih2, ih5⟩, fun h => ⟨ih3 h.2.1, ih6 h.2.2.1⟩⟩
    | a :: b :: c :: d, _ => simp at har
theorem T.formed : ∀ t : T, t.wf → t.ex.formed = true
  | .col n, _ => by simp [T.ex, EX.formed, EX.formedL, fm_mk, ar]
  | .val v, _ => by simp [T.ex, EX.formed, EX.formedL, fm_mk, ar]
  | .un op a, h => by
    obtain ⟨h1, h2⟩ := h
    simp only [T.ex, EX.formed, EX.formedL, T.formed a h2, Bool.and_true, fm_mk, ar]
    rcases h1 with rfl | rfl <;> simp
  | .bin op a b, h => by
    obtain ⟨h1, h2, h3⟩ := h
    simp only [T.ex, EX.formed, EX.formedL, T.formed a h2, T.formed b h3, Bool.and_true, fm_mk, ar]
    rw [if_neg (by omega), if_neg (by omega), if_pos (by omega)]
    simp

/-! ### kinds of trees -/
theorem c63 (ks : List Int) : ∀ t : T, t.wf → (t.vals fun v => inI v.n) → ACalls E.P 63 [ksV ks, t.ex.av] [] (fun r H => r = .tup [.int .i64 (t.kind ks).1, .int .i64 (t.kind ks).2] ∧ H = [])
  | .col n, _, _ => c63n ks (T.col n).ex [] (by simp [T.ex, EX.val, inI]) rfl (by simp [T.ex, EX.args, EX.op, ar]) (fun j hj => by simp [T.ex, EX.args] at hj)
  | .val v, _, hv => c63n ks (T.val v).ex [] hv rfl (by simp [T.ex, EX.args, EX.op, ar]) (fun j hj => by simp [T.ex, EX.args] at hj)
  | .un op a, hw, hv => by
    have ih := c63 ks a hw.2 hv
    have h := c63n ks (T.un op a).ex [a.kind ks] (by simp [T.ex, EX.val, inI]) rfl (by obtain ⟨rfl | rfl, _⟩ := hw <;> simp [T.ex, EX.args, EX.op, ar]) (fun j hj => by
      have : j = 0 := by simp [T.ex, EX.args] at hj; exact hj
      subst this; exact ih)
    have e : knode ks (T.un op a).ex [a.kind ks] = (T.un op a).kind ks := by
      simp only [knode, ferr, T.kind, T.ex, EX.op, EX.n, EX.val, List.map_cons, List.map_nil]
      split <;> simp_all <;> rfl
    rw [e] at h; exact h
  | .bin op a b, hw, hv => by
    have ih := c63 ks a hw.2.1 hv.1
    have ih2 := c63 ks b hw.2.2 hv.2
    have h := c63n ks (T.bin op a b).ex [a.kind ks, b.kind ks] (by simp [T.ex, EX.val, inI]) rfl (ar2 hw.1).symm (fun j hj => by
      have : j = 0 ∨ j = 1 := by simp [T.ex, EX.args] at hj; omega
      rcases this with rfl | rfl
      · exact ih
      · exact ih2)
    have e : knode ks (T.bin op a b).ex [a.kind ks, b.kind ks] = (T.bin op a b).kind ks := by
      simp only [knode, ferr, T.kind, T.ex, EX.op, EX.n, EX.val, List.map_cons, List.map_nil]
      split <;> rename_i h1 <;> (by_cases h2 : (a.kind ks).2 = 0 <;> simp [h2] at h1 ⊢ <;> simp_all <;> rfl)
    rw [e] at h; exact h
theorem c76 (ks : List Int) : ∀ t : T, t.wf → ACalls E.P 76 [ksV ks, t.ex.av] [] (fun r H => r = .tup [.int .i64 (t.kind ks).1, .int .i64 (t.kind ks).2] ∧ H = [])
  | .col n, _ => c76n ks (T.col n).ex [] rfl (by simp [T.ex, EX.args, EX.op, ar]) (fun j hj => by simp [T.ex, EX.args] at hj)
  | .val v, _ => c76n ks (T.val v).ex [] rfl (by simp [T.ex, EX.args, EX.op, ar]) (fun j hj => by simp [T.ex, EX.args] at hj)
  | .un op a, hw => by
    have ih := c76 ks a hw.2
    have h := c76n ks (T.un op a).ex [a.kind ks] rfl (by obtain ⟨rfl | rfl, _⟩ := hw <;> simp [T.ex, EX.args, EX.op, ar]) (fun j hj => by
      have : j = 0 := by simp [T.ex, EX.args] at hj; exact hj
      subst this; exact ih)
    have e : knode ks (T.un op a).ex [a.kind ks] = (T.un op a).kind ks := by
      simp only [knode, ferr, T.kind, T.ex, EX.op, EX.n, EX.val, List.map_cons, List.map_nil]
      split <;> simp_all <;> rfl
    rw [e] at h; exact h
  | .bin op a b, hw => by
    have ih := c76 ks a hw.2.1
    have ih2 := c76 ks b hw.2.2
    have h := c76n ks (T.bin op a b).ex [a.kind ks, b.kind ks] rfl (ar2 hw.1).symm (fun j hj => by
      have : j = 0 ∨ j = 1 := by simp [T.ex, EX.args] at hj; omega
      rcases this with rfl | rfl
      · exact ih
      · exact ih2)
    have e : knode ks (T.bin op a b).ex [a.kind ks, b.kind ks] = (T.bin op a b).kind ks := by
      simp only [knode, ferr, T.kind, T.ex, EX.op, EX.n, EX.val, List.map_cons, List.map_nil]
      split <;> rename_i h1 <;> (by_cases h2 : (a.kind ks).2 = 0 <;> simp [h2] at h1 ⊢ <;> simp_all <;> rfl)
    rw [e] at h; exact h
end Go.Proofs.Try

/-
  A part of the proof: see the text of the law.
-/
import Derived.Test.YtjiijjfpmaligaaDoorCak
set_option linter.unusedSimpArgs false
set_option linter.unusedVariables false
namespace Go.Proofs.Try
open Go.Al
set_option linter.unusedVariables false
set_option linter.unusedSimpArgs false
set_option maxRecDepth 20000
set_option maxHeartbeats 8000000

theorem ariR_err (op a b : Int) : (ariR op a b).2 ≠ 0 → (ariR op a b).2 = 360 := by
  unfold ariR; split <;> simp
theorem c15n (r : List VL) (e : EX) (rs : List (VL × Int)) (hlen : rs.length = e.args.length) (har : (e.args.length : Int) = ar e.op) (hcol : e.op = 1 → 0 ≤ e.n ∧ e.n < r.length) (hR : ∀ x ∈ rs, x.1.Right)
    (hrec : ∀ j, j < e.args.length → ACalls E.P 15 [(e.args.getD j default).av, rowV r] [] (fun q H => q = .tup [(rs.getD j default).1.av, .int .i64 (rs.getD j default).2] ∧ H = [])) :
    ACalls E.P 15 [e.av, rowV r] [] (fun q H => q = .tup [(enode r e rs).1.av, .int .i64 (enode r e rs).2] ∧ H = []) := by
  have hmax := maxLen_eq
  have hsh := ar_cases har
  refine ok15.acalls hE hm (by simp) fun N hN => ?_
  unfold mc15
  simp only [lA, ptrCells, ptrAdd, isNil, readsV, readsP, isCall, wrote, srcOf, seval, av_fs]
  refine loop_i (fun i : Nat => i ≤ e.args.length ∧ ∀ j, j < i → (rs.getD j default).2 = 0) (fun i => ⟨[(1, rowV r), (2, .op 0 0), (4, .op 1 0), (6, .slc 2 3 i), (7, .int .i64 i)], [.box e.fs, .box [.int .i64 0, .int .i64 0, .str ⟨#[]⟩], .arr 24 3 ((rs.take i).map prV)]⟩) (fun i => e.args.length - i) 0 ⟨by omega, by omega⟩
    (Ent.ghost' 6 24 3 (by omega) rfl (Ent.to [0,1,2] false (by simp) (by simp) rfl (by simp only [lP, seval, pa_prV] <;> (try simp) <;> (try omega)) (by simp only [lP, seval, pa_prV] <;> (try simp) <;> (try omega)))) ?_
  rintro i ⟨hi, ha⟩
  by_cases hin : i < e.args.length
  · have hrec := hrec i hin
    simp only [av_fs, vl_av] at hrec
    have hlt : ((i : Int) < (e.args.length : Int)) := by omega
    have hl : (rs.take i).length = i := by simp; omega
    repeat' (first
     | (with_reducible apply St.o; constructor) <;> intro _
     | with_reducible first | refine LenR_i fun _ => ?_ | refine And.intro (by omega) ?_ | (apply Sp.o; constructor) | refine frz0_i ?_
     | ((with_reducible apply Sc.o true; constructor); simp only [lP, seval, IdxR_exs, Int.toNat_natCast, List.length_map, pa_prV, vw_prV, hlt, decide_true, ti24]; refine ⟨_, hrec, ?_⟩; rintro _ _ ⟨rfl, rfl⟩; simp only [lA, lP, ptrCells, ptrAdd, isNil, readsV, readsP, isCall, wrote, srcOf, seval, IdxR_exs, Int.toNat_natCast, List.length_map, pa_prV, vw_prV, hlt, decide_true, ti24])
     | ((with_reducible refine keep0_i ?_); simp only [lP, seval])
     | simp (maxSteps := 1000000) (disch := omega) only [lE, ptrCells, ptrAdd, isNil, readsV, readsP, isCall, wrote, srcOf, seval, IdxR_exs, Int.toNat_natCast, List.length_map, pa_prV, vw_prV, hlt, decide_true, ti24])
    · rename_i h2
      have := ferr_at (l := rs) ha (by omega) h2
      simp only [enode, this, if_neg h2]
      rfl
    · rename_i h2
      refine back_i (i + 1) ⟨by omega, fun j hj => ?_⟩ (by omega) ?_
      · by_cases hji : j < i
        · exact ha j hji
        · obtain rfl : j = i := by omega
          exact h2
      · have ht : (rs.take (i + 1)).map prV = (rs.take i).map prV ++ [(rs.getD i default).1.av] := by
          rw [List.take_succ_eq_append_getElem (show i < rs.length by omega), List.map_append]
          simp [prV, show i < rs.length by omega]
        rw [ht, vl_av]
        exact (Ent.to [0,1,5] false (by simp) (by simp) rfl (by simp only [lP, seval, pa_prV, hl, List.map_append] <;> (try simp) <;> (try omega)) (by simp only [lP, seval, pa_prV, hl, List.map_append] <;> (try simp) <;> (try omega)))
  · have hie : i = rs.length := by omega
    subst hie
    have hf : ferr rs = 0 := ferr_none ha
    have hk : enode r e rs = eN r e.op e.n e.val (rs.map (·.1)) := by rw [enode, if_pos hf]
    rw [hk]
    simp only [List.take_length]
    clear hrec hk hf ha
    have hl0 : e.args.length = rs.length := hlen.symm
    rcases hsh with ⟨h0, hop⟩ | ⟨h0, hop⟩ | ⟨h0, hop⟩
    · obtain rfl : rs = [] := List.eq_nil_of_length_eq_zero (by omega)
      rcases hop with hop | hop
      · obtain ⟨hc1, hc2⟩ := hcol hop
        repeat' (first
         | (with_reducible apply St.o; constructor) <;> intro _
         | with_reducible first | refine LenR_i fun _ => ?_ | refine And.intro (by omega) ?_ | (apply Sp.o; constructor) | refine frz0_i ?_
         | ((with_reducible refine keep0_i ?_); simp only [lP, seval])
         | simp (maxSteps := 1000000) (disch := omega) only [lE, ptrCells, ptrAdd, isNil, readsV, readsP, isCall, wrote, srcOf, seval, IdxR_vls, List.length_map, hop, hl0, ti24, Int.lt_irrefl, List.length_nil, List.length_cons, Int.ofNat_zero, decide_false, decide_true])
        all_goals simp [eN, vl_av]
      · repeat' (first
         | (with_reducible apply St.o; constructor) <;> intro _
         | with_reducible first | refine LenR_i fun _ => ?_ | refine And.intro (by omega) ?_ | (apply Sp.o; constructor) | refine frz0_i ?_
         | ((with_reducible refine keep0_i ?_); simp only [lP, seval])
         | simp (maxSteps := 1000000) (disch := omega) only [lE, ptrCells, ptrAdd, isNil, readsV, readsP, isCall, wrote, srcOf, seval, List.length_map, hop, hl0, ti24, Int.lt_irrefl, List.length_nil, List.length_cons, Int.ofNat_zero, decide_false, decide_true])
        all_goals simp [eN, vl_av]
    · obtain ⟨x, rfl⟩ : ∃ x, rs = [x] := by
        rcases rs with _ | ⟨x, _ | ⟨z, t⟩⟩
        · rw [h0] at hl0; simp at hl0
        · exact ⟨x, rfl⟩
        · rw [h0] at hl0; simp at hl0
      obtain ⟨x, x2⟩ := x
      have hx : x.Right := hR (x, x2) (by simp)
      have h57 := c57 x
      have h44 : ∀ b : Bool, ACalls E.P 44 [.bool b] [] (fun r H => r = .agg [.int .i64 3, .int .i64 (if b then 1 else 0), .str ⟨#[]⟩] ∧ H = []) := c44
      simp only [vl_av] at h57
      simp only [List.length_cons, List.length_nil, List.map_cons, List.map_nil, prV, vl_av]
      rcases hop with hop | hop
      · repeat' (first
         | (with_reducible apply St.o; constructor) <;> intro _
         | with_reducible first | refine LenR_i fun _ => ?_ | refine And.intro (by omega) ?_ | (apply Sp.o; constructor) | refine frz0_i ?_
         | ((with_reducible apply Sc.o true; constructor); simp only [lP, seval, epR_cons, List.length_map, hop, hl0, ti24, Int.lt_irrefl, List.length_nil, List.length_cons, Int.ofNat_zero, decide_false, decide_true]; (first | refine ⟨_, h57, ?_⟩ | refine ⟨_, h44 _, ?_⟩); rintro _ _ ⟨rfl, rfl⟩; simp only [lA, lP, ptrCells, ptrAdd, isNil, readsV, readsP, isCall, wrote, srcOf, seval, epR_cons, List.length_map, hop, hl0, ti24, Int.lt_irrefl, List.length_nil, List.length_cons, Int.ofNat_zero, decide_false, decide_true])
         | ((with_reducible refine keep0_i ?_); simp only [lP, seval])
         | simp (maxSteps := 1000000) (disch := omega) only [lE, ptrCells, ptrAdd, isNil, readsV, readsP, isCall, wrote, srcOf, seval, epR_cons, List.length_map, hop, hl0, ti24, Int.lt_irrefl, List.length_nil, List.length_cons, Int.ofNat_zero, decide_false, decide_true])
        all_goals simp [eN]
      · repeat' (first
         | (with_reducible apply St.o; constructor) <;> intro _
         | with_reducible first | refine LenR_i fun _ => ?_ | refine And.intro (by omega) ?_ | (apply Sp.o; constructor) | refine frz0_i ?_
         | ((with_reducible apply Sc.o true; constructor); simp only [lP, seval, epR_cons, List.length_map, hop, hl0, ti24, Int.lt_irrefl, List.length_nil, List.length_cons, Int.ofNat_zero, decide_false, decide_true]; (first | refine ⟨_, h57, ?_⟩ | refine ⟨_, h44 _, ?_⟩); rintro _ _ ⟨rfl, rfl⟩; simp only [lA, lP, ptrCells, ptrAdd, isNil, readsV, readsP, isCall, wrote, srcOf, seval, epR_cons, List.length_map, hop, hl0, ti24, Int.lt_irrefl, List.length_nil, List.length_cons, Int.ofNat_zero, decide_false, decide_true])
         | ((with_reducible refine keep0_i ?_); simp only [lP, seval])
         | simp (maxSteps := 1000000) (disch := omega) only [lE, ptrCells, ptrAdd, isNil, readsV, readsP, isCall, wrote, srcOf, seval, epR_cons, List.length_map, hop, hl0, ti24, Int.lt_irrefl, List.length_nil, List.length_cons, Int.ofNat_zero, decide_false, decide_true])
        all_goals simp [eN, VL.ofB]
    · obtain ⟨x, y, rfl⟩ : ∃ x y, rs = [x, y] := by
        rcases rs with _ | ⟨x, _ | ⟨y, _ | ⟨z, t⟩⟩⟩
        · rw [h0] at hl0; simp at hl0
        · rw [h0] at hl0; simp at hl0
        · exact ⟨x, y, rfl⟩
        · rw [h0] at hl0; simp at hl0
      obtain ⟨x, x2⟩ := x
      obtain ⟨y, y2⟩ := y
      have hx : x.Right := hR (x, x2) (by simp)
      have hy : y.Right := hR (y, y2) (by simp)
      have sx := right_small hx
      have sy := right_small hy
      have h55 := c55 x y
      have h56 := c56 x y
      have h58 := c58 e.op
      have h59 := c59 e.op x y
      simp only [vl_av] at h55 h56 h59
      simp only [List.length_cons, List.length_nil, List.map_cons, List.map_nil, prV, vl_av]
      have hops : e.op = 12 ∨ e.op = 13 ∨ (cmpB e.op = true ∧ e.op ≠ 1 ∧ e.op ≠ 2 ∧ e.op ≠ 12 ∧ e.op ≠ 13 ∧ e.op ≠ 14 ∧ e.op ≠ 15) ∨ e.op = 3 ∨ e.op = 4 ∨ e.op = 5 := by
        simp only [cmpB, decide_eq_true_eq]; omega
      rcases hops with hop | hop | ⟨hop, ho1, ho2, ho3, ho4, ho5, ho6⟩ | hop | hop | hop
      · repeat' (first
         | (with_reducible apply St.o; constructor) <;> intro _
         | with_reducible first | refine LenR_i fun _ => ?_ | refine And.intro (by omega) ?_ | (apply Sp.o; constructor) | refine frz0_i ?_
         | ((with_reducible apply Sc.o true; constructor); simp only [lP, seval, epR_cons, List.length_map, hop, hl0, ti24, Int.lt_irrefl, List.length_nil, List.length_cons, Int.ofNat_zero, decide_false, decide_true]; refine ⟨_, h55, ?_⟩; rintro _ _ ⟨rfl, rfl⟩; simp only [lA, lP, ptrCells, ptrAdd, isNil, readsV, readsP, isCall, wrote, srcOf, seval, epR_cons, List.length_map, hop, hl0, ti24, Int.lt_irrefl, List.length_nil, List.length_cons, Int.ofNat_zero, decide_false, decide_true])
         | ((with_reducible refine keep0_i ?_); simp only [lP, seval])
         | simp (maxSteps := 1000000) (disch := omega) only [lE, ptrCells, ptrAdd, isNil, readsV, readsP, isCall, wrote, srcOf, seval, epR_cons, List.length_map, hop, hl0, ti24, Int.lt_irrefl, List.length_nil, List.length_cons, Int.ofNat_zero, decide_false, decide_true])
        refine any_i [1] ?_
        repeat' (first
         | (with_reducible apply St.o; constructor) <;> intro _
         | with_reducible first | refine LenR_i fun _ => ?_ | refine And.intro (by omega) ?_ | (apply Sp.o; constructor) | refine frz0_i ?_
         | ((with_reducible apply Sc.o true; constructor); simp only [lP, seval, epR_cons, List.length_map, hop, hl0, ti24, Int.lt_irrefl, List.length_nil, List.length_cons, Int.ofNat_zero, decide_false, decide_true]; refine ⟨_, h55, ?_⟩; rintro _ _ ⟨rfl, rfl⟩; simp only [lA, lP, ptrCells, ptrAdd, isNil, readsV, readsP, isCall, wrote, srcOf, seval, epR_cons, List.length_map, hop, hl0, ti24, Int.lt_irrefl, List.length_nil, List.length_cons, Int.ofNat_zero, decide_false, decide_true])
         | ((with_reducible refine keep0_i ?_); simp only [lP, seval])
         | simp (maxSteps := 1000000) (disch := omega) only [lE, ptrCells, ptrAdd, isNil, readsV, readsP, isCall, wrote, srcOf, seval, epR_cons, List.length_map, hop, hl0, ti24, Int.lt_irrefl, List.length_nil, List.length_cons, Int.ofNat_zero, decide_false, decide_true])
        all_goals simp [eN]
      · repeat' (first
         | (with_reducible apply St.o; constructor) <;> intro _
         | with_reducible first | refine LenR_i fun _ => ?_ | refine And.intro (by omega) ?_ | (apply Sp.o; constructor) | refine frz0_i ?_
         | ((with_reducible apply Sc.o true; constructor); simp only [lP, seval, epR_cons, List.length_map, hop, hl0, ti24, Int.lt_irrefl, List.length_nil, List.length_cons, Int.ofNat_zero, decide_false, decide_true]; refine ⟨_, h56, ?_⟩; rintro _ _ ⟨rfl, rfl⟩; simp only [lA, lP, ptrCells, ptrAdd, isNil, readsV, readsP, isCall, wrote, srcOf, seval, epR_cons, List.length_map, hop, hl0, ti24, Int.lt_irrefl, List.length_nil, List.length_cons, Int.ofNat_zero, decide_false, decide_true])
         | ((with_reducible refine keep0_i ?_); simp only [lP, seval])
         | simp (maxSteps := 1000000) (disch := omega) only [lE, ptrCells, ptrAdd, isNil, readsV, readsP, isCall, wrote, srcOf, seval, epR_cons, List.length_map, hop, hl0, ti24, Int.lt_irrefl, List.length_nil, List.length_cons, Int.ofNat_zero, decide_false, decide_true])
        refine any_i [1] ?_
        repeat' (first
         | (with_reducible apply St.o; constructor) <;> intro _
         | with_reducible first | refine LenR_i fun _ => ?_ | refine And.intro (by omega) ?_ | (apply Sp.o; constructor) | refine frz0_i ?_
         | ((with_reducible apply Sc.o true; constructor); simp only [lP, seval, epR_cons, List.length_map, hop, hl0, ti24, Int.lt_irrefl, List.length_nil, List.length_cons, Int.ofNat_zero, decide_false, decide_true]; refine ⟨_, h56, ?_⟩; rintro _ _ ⟨rfl, rfl⟩; simp only [lA, lP, ptrCells, ptrAdd, isNil, readsV, readsP, isCall, wrote, srcOf, seval, epR_cons, List.length_map, hop, hl0, ti24, Int.lt_irrefl, List.length_nil, List.length_cons, Int.ofNat_zero, decide_false, decide_true])
         | ((with_reducible refine keep0_i ?_); simp only [lP, seval])
         | simp (maxSteps := 1000000) (disch := omega) only [lE, ptrCells, ptrAdd, isNil, readsV, readsP, isCall, wrote, srcOf, seval, epR_cons, List.length_map, hop, hl0, ti24, Int.lt_irrefl, List.length_nil, List.length_cons, Int.ofNat_zero, decide_false, decide_true])
        all_goals simp [eN]
      · repeat' (first
         | (with_reducible apply St.o; constructor) <;> intro _
         | with_reducible first | refine LenR_i fun _ => ?_ | refine And.intro (by omega) ?_ | (apply Sp.o; constructor) | refine frz0_i ?_
         | ((with_reducible apply Sc.o true; constructor); simp only [lP, seval, epR_cons, List.length_map, hop, ho1, ho2, ho3, ho4, ho5, ho6, hl0, ti24, Int.lt_irrefl, List.length_nil, List.length_cons, Int.ofNat_zero, decide_false, decide_true]; (first | refine ⟨_, h58, ?_⟩ | refine ⟨_, h59, ?_⟩); rintro _ _ ⟨rfl, rfl⟩; simp only [lA, lP, ptrCells, ptrAdd, isNil, readsV, readsP, isCall, wrote, srcOf, seval, epR_cons, List.length_map, hop, ho1, ho2, ho3, ho4, ho5, ho6, hl0, ti24, Int.lt_irrefl, List.length_nil, List.length_cons, Int.ofNat_zero, decide_false, decide_true])
         | ((with_reducible refine keep0_i ?_); simp only [lP, seval])
         | simp (maxSteps := 1000000) (disch := omega) only [lE, ptrCells, ptrAdd, isNil, readsV, readsP, isCall, wrote, srcOf, seval, epR_cons, List.length_map, hop, ho1, ho2, ho3, ho4, ho5, ho6, hl0, ti24, Int.lt_irrefl, List.length_nil, List.length_cons, Int.ofNat_zero, decide_false, decide_true])
        refine any_i [1] ?_
        repeat' (first
         | (with_reducible apply St.o; constructor) <;> intro _
         | with_reducible first | refine LenR_i fun _ => ?_ | refine And.intro (by omega) ?_ | (apply Sp.o; constructor) | refine frz0_i ?_
         | ((with_reducible apply Sc.o true; constructor); simp only [lP, seval, epR_cons, List.length_map, hop, ho1, ho2, ho3, ho4, ho5, ho6, hl0, ti24, Int.lt_irrefl, List.length_nil, List.length_cons, Int.ofNat_zero, decide_false, decide_true]; (first | refine ⟨_, h58, ?_⟩ | refine ⟨_, h59, ?_⟩); rintro _ _ ⟨rfl, rfl⟩; simp only [lA, lP, ptrCells, ptrAdd, isNil, readsV, readsP, isCall, wrote, srcOf, seval, epR_cons, List.length_map, hop, ho1, ho2, ho3, ho4, ho5, ho6, hl0, ti24, Int.lt_irrefl, List.length_nil, List.length_cons, Int.ofNat_zero, decide_false, decide_true])
         | ((with_reducible refine keep0_i ?_); simp only [lP, seval])
         | simp (maxSteps := 1000000) (disch := omega) only [lE, ptrCells, ptrAdd, isNil, readsV, readsP, isCall, wrote, srcOf, seval, epR_cons, List.length_map, hop, ho1, ho2, ho3, ho4, ho5, ho6, hl0, ti24, Int.lt_irrefl, List.length_nil, List.length_cons, Int.ofNat_zero, decide_false, decide_true])
        all_goals simp [eN, ho1, ho2, ho3, ho4, ho5, ho6, hop]
      all_goals
        have hc : cmpB e.op = false := by rw [hop]; rfl
        have h60 := c60 e.op x.n y.n (by omega) sx sy
        rw [hop] at h58 hc h60
        repeat' (first
         | (with_reducible apply St.o; constructor) <;> intro _
         | with_reducible first | refine LenR_i fun _ => ?_ | refine And.intro (by omega) ?_ | (apply Sp.o; constructor) | refine frz0_i ?_
         | ((with_reducible apply Sc.o true; constructor); simp only [lP, seval, epR_cons, List.length_map, hop, hc, hl0, ti24, Int.lt_irrefl, List.length_nil, List.length_cons, Int.ofNat_zero, decide_false, decide_true]; (first | refine ⟨_, h58, ?_⟩ | refine ⟨_, h60, ?_⟩); rintro _ _ ⟨rfl, rfl⟩; simp only [lA, lP, ptrCells, ptrAdd, isNil, readsV, readsP, isCall, wrote, srcOf, seval, epR_cons, List.length_map, hop, hc, hl0, ti24, Int.lt_irrefl, List.length_nil, List.length_cons, Int.ofNat_zero, decide_false, decide_true])
         | ((with_reducible refine keep0_i ?_); simp only [lP, seval])
         | simp (maxSteps := 1000000) (disch := omega) only [lE, ptrCells, ptrAdd, isNil, readsV, readsP, isCall, wrote, srcOf, seval, epR_cons, List.length_map, hop, hc, hl0, ti24, Int.lt_irrefl, List.length_nil, List.length_cons, Int.ofNat_zero, decide_false, decide_true])
        all_goals clear h55 h56 h58 h59 h60
        all_goals first
          | (rename_i h1 h2 h3
             have h4 := ariR_err _ _ _ h3
             simp [eN, hc, h1, h2, h4]; exact ⟨rfl, rfl, rfl⟩)
          | (simp [eN, hc, *]; done)
          | (simp [eN, hc, *]; exact ⟨rfl, rfl, rfl⟩)
end Go.Proofs.Try

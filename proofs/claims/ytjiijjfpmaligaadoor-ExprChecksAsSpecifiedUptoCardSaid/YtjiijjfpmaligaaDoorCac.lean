/-
  A part of the proof: see the text of the law.
-/
import Derived.Test.YtjiijjfpmaligaaDoorCab
set_option linter.unusedSimpArgs false
set_option linter.unusedVariables false
namespace Go.Proofs.Try
open Go.Al
set_option linter.unusedVariables false
set_option linter.unusedSimpArgs false
set_option maxRecDepth 20000

theorem c147 (a b : Int) : ACalls E.P 147 [.agg [.int .i64 a, .int .i64 b]] [] (fun r H => r = .int .i64 (IntKind.i64.wrap (a + b)) ∧ H = []) := by
  refine ok147.acalls hE hm (by simp) fun N hN => ?_
  unfold mc147
  simp only [lA, ptrCells, ptrAdd, isNil, readsV, readsP, isCall, wrote, srcOf, seval]
  repeat' (first
   | (with_reducible apply St.o; constructor) <;> intro _
   | with_reducible first | refine LenR_i fun _ => ?_ | refine And.intro (by omega) ?_ | (apply Sp.o; constructor) | refine frz0_i ?_
   | ((with_reducible refine keep0_i ?_); simp only [lP, seval])
   | simp (maxSteps := 1000000) (disch := omega) only [lE, ptrCells, ptrAdd, isNil, readsV, readsP, isCall, wrote, srcOf, seval])
theorem c149 (a b : Int) : ACalls E.P 149 [.agg [.int .i64 a, .int .i64 b]] [] (fun r H => r = .int .i64 (IntKind.i64.wrap (a - b)) ∧ H = []) := by
  refine ok149.acalls hE hm (by simp) fun N hN => ?_
  unfold mc149
  simp only [lA, ptrCells, ptrAdd, isNil, readsV, readsP, isCall, wrote, srcOf, seval]
  repeat' (first
   | (with_reducible apply St.o; constructor) <;> intro _
   | with_reducible first | refine LenR_i fun _ => ?_ | refine And.intro (by omega) ?_ | (apply Sp.o; constructor) | refine frz0_i ?_
   | ((with_reducible refine keep0_i ?_); simp only [lP, seval])
   | simp (maxSteps := 1000000) (disch := omega) only [lE, ptrCells, ptrAdd, isNil, readsV, readsP, isCall, wrote, srcOf, seval])
theorem wrapu {n : Nat} (h : n < 2 ^ 64) : IntKind.u64.wrap (n : Int) = n := IntWalk.u64_in n ⟨by omega, by omega⟩
theorem and32 {x : Nat} (hx : x < 2 ^ 64) : IntKind.u64.wrap ↑(BitVec.ofInt IntKind.u64.bits (x : Int) &&& BitVec.ofInt IntKind.u64.bits 4294967295).toNat = ((x % 4294967296 : Nat) : Int) := by
  have h1 : (BitVec.ofInt IntKind.u64.bits (x : Int) &&& BitVec.ofInt IntKind.u64.bits 4294967295).toNat = x % 4294967296 := by
    rw [BitVec.toNat_and]
    have e1 : (BitVec.ofInt IntKind.u64.bits (x : Int)).toNat = x := by
      rw [show IntKind.u64.bits = 64 from rfl]
      simp [BitVec.toNat_ofInt]
      omega
    have e2 : (BitVec.ofInt IntKind.u64.bits 4294967295).toNat = 2 ^ 32 - 1 := by decide
    rw [e1, e2, Nat.and_two_pow_sub_one_eq_mod]
  rw [h1, wrapu (by omega)]
theorem shr32 {x : Nat} : (x : Int).fdiv (2 ^ min 32 IntKind.u64.bits) = ((x / 4294967296 : Nat) : Int) := by
  rw [show (2 : Int) ^ min 32 IntKind.u64.bits = ((4294967296 : Nat) : Int) by decide, Int.fdiv_eq_ediv_of_nonneg _ (by omega)]
  omega
theorem p32 {a b : Nat} (ha : a < 4294967296) (hb : b < 4294967296) : a * b ≤ 18446744065119617025 := by
  have := Nat.mul_le_mul (Nat.le_sub_one_of_lt ha) (Nat.le_sub_one_of_lt hb)
  omega
theorem wrapmod (n : Nat) : IntKind.u64.wrap (n : Int) = ((n % 18446744073709551616 : Nat) : Int) := by
  simp [IntKind.wrap, IntKind.signed, IntKind.bits]
theorem c151 (x y : Nat) (hx : x < 2 ^ 64) (hy : y < 2 ^ 64) : ACalls E.P 151 [.int .u64 x, .int .u64 y] [] (fun r H => r = .tup [.int .u64 (x * y / 2 ^ 64 : Nat), .int .u64 (x * y % 2 ^ 64 : Nat)] ∧ H = []) := by
  refine ok151.acalls hE hm (by simp) fun N hN => ?_
  unfold mc151
  simp only [lA, ptrCells, ptrAdd, isNil, readsV, readsP, isCall, wrote, srcOf, seval]
  repeat' (first
   | (with_reducible apply St.o; constructor) <;> intro _
   | with_reducible first | refine LenR_i fun _ => ?_ | refine And.intro (by omega) ?_ | (apply Sp.o; constructor) | refine frz0_i ?_
   | ((with_reducible refine keep0_i ?_); simp only [lP, seval])
   | simp (maxSteps := 1000000) (disch := omega) only [lE, ptrCells, ptrAdd, isNil, readsV, readsP, isCall, wrote, srcOf, seval])
  have q0 := p32 (a := x % 4294967296) (b := y % 4294967296) (by omega) (by omega)
  have q1 := p32 (a := x / 4294967296) (b := y % 4294967296) (by omega) (by omega)
  have q2 := p32 (a := x % 4294967296) (b := y / 4294967296) (by omega) (by omega)
  have q3 := p32 (a := x / 4294967296) (b := y / 4294967296) (by omega) (by omega)
  have hxy : x * y = (x / 4294967296) * (y / 4294967296) * 18446744073709551616 + ((x / 4294967296) * (y % 4294967296) + (x % 4294967296) * (y / 4294967296)) * 4294967296 + (x % 4294967296) * (y % 4294967296) := by
    have e1 : x = x / 4294967296 * 4294967296 + x % 4294967296 := by omega
    have e2 : y = y / 4294967296 * 4294967296 + y % 4294967296 := by omega
    generalize x / 4294967296 = x1 at *
    generalize x % 4294967296 = x0 at *
    generalize y / 4294967296 = y1 at *
    generalize y % 4294967296 = y0 at *
    subst e1 e2
    simp only [Nat.add_mul, Nat.mul_add]
    have : x1 * 4294967296 * (y1 * 4294967296) = x1 * y1 * 18446744073709551616 := by rw [Nat.mul_mul_mul_comm]
    have : x1 * 4294967296 * y0 = x1 * y0 * 4294967296 := by rw [Nat.mul_right_comm]
    have : x0 * (y1 * 4294967296) = x0 * y1 * 4294967296 := by rw [Nat.mul_assoc]
    omega
  rw [and32 hx, and32 hy]
  simp only [shr32, ← Int.natCast_mul, ← Int.natCast_add]
  rw [wrapmod (x * y)]
  generalize x / 4294967296 * (y / 4294967296) = p3 at *
  generalize x / 4294967296 * (y % 4294967296) = p1 at *
  generalize x % 4294967296 * (y / 4294967296) = p2 at *
  generalize x % 4294967296 * (y % 4294967296) = p0 at *
  generalize x * y = p at *
  subst hxy
  simp only [wrapu (show p0 < 2 ^ 64 by omega), wrapu (show p1 < 2 ^ 64 by omega), wrapu (show p2 < 2 ^ 64 by omega), wrapu (show p3 < 2 ^ 64 by omega), shr32, ← Int.natCast_add]
  rw [wrapu (show p1 + p0 / 4294967296 < 2 ^ 64 by omega)]
  rw [and32 (by omega)]
  simp only [shr32, ← Int.natCast_add]
  rw [wrapu (show (p1 + p0 / 4294967296) % 4294967296 + p2 < 2 ^ 64 by omega)]
  simp only [shr32, ← Int.natCast_add]
  simp only [wrapmod, ← Int.natCast_add]
  congr 3
  omega
theorem c85 (a : Int) (ha : -549755813888 ≤ a ∧ a ≤ 549755813888) : ACalls E.P 85 [.int .i64 a] [] (fun r H => r = .int .i64 a.natAbs ∧ H = []) := by
  refine ok85.acalls hE hm (by simp) fun N hN => ?_
  unfold mc85
  simp only [lA, ptrCells, ptrAdd, isNil, readsV, readsP, isCall, wrote, srcOf, seval]
  repeat' (first
   | (with_reducible apply St.o; constructor) <;> intro _
   | with_reducible first | refine LenR_i fun _ => ?_ | refine And.intro (by omega) ?_ | (apply Sp.o; constructor) | refine frz0_i ?_
   | ((with_reducible refine keep0_i ?_); simp only [lP, seval])
   | simp (maxSteps := 1000000) (disch := omega) only [lE, ptrCells, ptrAdd, isNil, readsV, readsP, isCall, wrote, srcOf, seval])
  all_goals (simp only [AV.int.injEq, true_and])
  all_goals omega
def small (a : Int) : Prop := -549755813888 ≤ a ∧ a ≤ 549755813888
/-- The result of arithmetic. -/
def ari (op a b : Int) : Int := if op = 5 then a * b else if op = 4 then a - b else a + b
def ariR (op a b : Int) : Int × Int := if ari op a b < -549755813888 ∨ 549755813887 < ari op a b then (0, 360) else (ari op a b, 0)
theorem mul_bound {a b : Int} (ha : small a) (hb : small b) : -302231454903657293676544 ≤ a * b ∧ a * b ≤ 302231454903657293676544 ∧ (a * b).natAbs = a.natAbs * b.natAbs := by
  have h := Int.natAbs_mul a b
  have h2 : a.natAbs * b.natAbs ≤ 549755813888 * 549755813888 := Nat.mul_le_mul (by obtain ⟨_, _⟩ := ha; omega) (by obtain ⟨_, _⟩ := hb; omega)
  omega
theorem c60 (op a b : Int) (hop : op = 3 ∨ op = 4 ∨ op = 5) (ha : small a) (hb : small b) : ACalls E.P 60 [.int .i64 op, .int .i64 a, .int .i64 b] [] (fun r H => r = .tup [.int .i64 (ariR op a b).1, .int .i64 (ariR op a b).2] ∧ H = []) := by
  have h1 := c85 a ha
  have h2 := c85 b hb
  obtain ⟨ha1, ha2⟩ := ha
  obtain ⟨hb1, hb2⟩ := hb
  refine ok60.acalls hE hm (by simp) fun N hN => ?_
  unfold mc60
  rcases hop with rfl | rfl | rfl
  · simp only [lA, ptrCells, ptrAdd, isNil, readsV, readsP, isCall, wrote, srcOf, seval, wrap_i64 (show -9223372036854775808 ≤ a + b by omega) (show a + b ≤ 9223372036854775807 by omega)]
    repeat' (first
     | (with_reducible apply St.o; constructor) <;> intro _
     | with_reducible first | refine LenR_i fun _ => ?_ | refine And.intro (by omega) ?_ | (apply Sp.o; constructor) | refine frz0_i ?_
     | ((with_reducible refine keep0_i ?_); simp only [lP, seval])
     | simp (maxSteps := 1000000) (disch := omega) only [lE, ptrCells, ptrAdd, isNil, readsV, readsP, isCall, wrote, srcOf, seval])
    all_goals (simp only [ariR, ari, AV.tup.injEq, List.cons.injEq, AV.int.injEq, true_and, and_true]; simp)
    all_goals (first | rw [if_pos (by omega)] | rw [if_neg (by omega)])
    all_goals simp
  · simp only [lA, ptrCells, ptrAdd, isNil, readsV, readsP, isCall, wrote, srcOf, seval, wrap_i64 (show -9223372036854775808 ≤ a - b by omega) (show a - b ≤ 9223372036854775807 by omega)]
    repeat' (first
     | (with_reducible apply St.o; constructor) <;> intro _
     | with_reducible first | refine LenR_i fun _ => ?_ | refine And.intro (by omega) ?_ | (apply Sp.o; constructor) | refine frz0_i ?_
     | ((with_reducible refine keep0_i ?_); simp only [lP, seval])
     | simp (maxSteps := 1000000) (disch := omega) only [lE, ptrCells, ptrAdd, isNil, readsV, readsP, isCall, wrote, srcOf, seval, wrap_i64 (show -9223372036854775808 ≤ a - b by omega) (show a - b ≤ 9223372036854775807 by omega)])
    all_goals (simp only [ariR, ari, AV.tup.injEq, List.cons.injEq, AV.int.injEq, true_and, and_true]; simp)
    all_goals (first | rw [if_pos (by omega)] | rw [if_neg (by omega)])
    all_goals simp
  · obtain ⟨m1, m2, m3⟩ := mul_bound ⟨ha1, ha2⟩ ⟨hb1, hb2⟩
    by_cases hb0 : b = 0
    · subst hb0
      simp only [lA, ptrCells, ptrAdd, isNil, readsV, readsP, isCall, wrote, srcOf, seval, wrap_i64 (show -9223372036854775808 ≤ a + 0 by omega) (show a + 0 ≤ 9223372036854775807 by omega)]
      repeat' (first
       | (with_reducible apply St.o; constructor) <;> intro _
       | with_reducible first | refine LenR_i fun _ => ?_ | refine And.intro (by omega) ?_ | (apply Sp.o; constructor) | refine frz0_i ?_
       | ((with_reducible refine keep0_i ?_); simp only [lP, seval])
       | simp (maxSteps := 1000000) (disch := omega) only [lE, ptrCells, ptrAdd, isNil, readsV, readsP, isCall, wrote, srcOf, seval, Int.mul_zero, Int.add_zero, show IntKind.i64.wrap 0 = 0 from rfl])
      all_goals (simp_all [ariR, ari]; try (simp [IntKind.wrap_i64] at *))
    have e1 : IntKind.i64.wrap (Int.tdiv 549755813888 (b.natAbs : Int)) = ((549755813888 / b.natAbs : Nat) : Int) := by
      rw [show Int.tdiv 549755813888 (b.natAbs : Int) = ((549755813888 / b.natAbs : Nat) : Int) from rfl]
      have e3 : 549755813888 / b.natAbs ≤ 549755813888 := Nat.div_le_self _ _
      generalize 549755813888 / b.natAbs = q at *
      exact wrap_i64 (by omega) (by omega)
    have e2 : (549755813888 / b.natAbs < a.natAbs) ↔ 549755813888 < a.natAbs * b.natAbs := Nat.div_lt_iff_lt_mul (by omega)
    rw [← m3] at e2
    have e4 : ¬ (b.natAbs : Int) = 0 := by omega
    simp only [lA, ptrCells, ptrAdd, isNil, readsV, readsP, isCall, wrote, srcOf, seval, wrap_i64 (show -9223372036854775808 ≤ a + b by omega) (show a + b ≤ 9223372036854775807 by omega)]
    by_cases hbig : 549755813888 < (a * b).natAbs
    · repeat' (first
       | (with_reducible apply St.o; constructor) <;> intro _
       | with_reducible first | refine LenR_i fun _ => ?_ | refine And.intro (by omega) ?_ | (apply Sp.o; constructor) | refine frz0_i ?_
       | ((with_reducible apply Sc.o true; constructor); simp only [lP, seval, e1, e4]; (first | refine ⟨_, h1, ?_⟩ | refine ⟨_, h2, ?_⟩); rintro _ _ ⟨rfl, rfl⟩; simp only [lA, lP, ptrCells, ptrAdd, isNil, readsV, readsP, isCall, wrote, srcOf, seval, e1, e4])
       | ((with_reducible refine keep0_i ?_); simp only [lP, seval])
       | simp (maxSteps := 1000000) (disch := omega) only [lE, ptrCells, ptrAdd, isNil, readsV, readsP, isCall, wrote, srcOf, seval, e1, e4])
      all_goals clear h1 h2
      · simp only [ariR, ari, if_true]
        rw [if_pos (by omega)]
      all_goals (exfalso; have := e2.2 hbig; omega)
    · have e5 : IntKind.i64.wrap (a * b) = a * b := wrap_i64 (by omega) (by omega)
      repeat' (first
       | (with_reducible apply St.o; constructor) <;> intro _
       | with_reducible first | refine LenR_i fun _ => ?_ | refine And.intro (by omega) ?_ | (apply Sp.o; constructor) | refine frz0_i ?_
       | ((with_reducible apply Sc.o true; constructor); simp only [lP, seval, e1, e4, e5]; (first | refine ⟨_, h1, ?_⟩ | refine ⟨_, h2, ?_⟩); rintro _ _ ⟨rfl, rfl⟩; simp only [lA, lP, ptrCells, ptrAdd, isNil, readsV, readsP, isCall, wrote, srcOf, seval, e1, e4, e5])
       | ((with_reducible refine keep0_i ?_); simp only [lP, seval])
       | simp (maxSteps := 1000000) (disch := omega) only [lE, ptrCells, ptrAdd, isNil, readsV, readsP, isCall, wrote, srcOf, seval, e1, e4, e5])
      all_goals clear h1 h2
      all_goals simp only [ariR, ari, if_true]
      all_goals first
        | (rw [if_pos (by omega)]; done)
        | (rw [if_neg (by omega)]; done)
        | (exfalso; rename_i h; exact hbig (e2.1 (by omega)))
        | (exfalso; omega)
theorem sgn_mul (a b : Int) : ((decide (a < 0) != decide (b < 0)) = true → a * b ≤ 0) ∧ ((decide (a < 0) != decide (b < 0)) = false → 0 ≤ a * b) := by
  by_cases ha : a < 0 <;> by_cases hb : b < 0 <;> simp [ha, hb]
  · exact Int.le_of_lt (Int.mul_pos_of_neg_of_neg ha hb)
  · exact Int.mul_nonpos_of_nonpos_of_nonneg (by omega) (by omega)
  · exact Int.mul_nonpos_of_nonneg_of_nonpos (by omega) (by omega)
  · exact Int.mul_nonneg (by omega) (by omega)
theorem c150 (a b : Int) (ha : small a) (hb : small b) : ACalls E.P 150 [.agg [.int .i64 a, .int .i64 b]] [] (fun r H => (∃ n, r = .int .i64 n ∧ ((-549755813888 ≤ n ∧ n ≤ 549755813887) → n = a * b) ∧ ((-549755813888 ≤ a * b ∧ a * b ≤ 549755813887) → n = a * b)) ∧ H = []) := by
  obtain ⟨m1, m2, m3⟩ := mul_bound ha hb
  obtain ⟨ha1, ha2⟩ := ha
  obtain ⟨hb1, hb2⟩ := hb
  have h1 := c151 a.natAbs b.natAbs (by omega) (by omega)
  have e : ∀ c : Int, -549755813888 ≤ c ∧ c ≤ 549755813888 → (if IntKind.i64.wrap (0 - c) > c then IntKind.i64.wrap (0 - c) else c) = (c.natAbs : Int) := fun c hc => by
    rw [wrap_i64 (by omega) (by omega)]; split <;> omega
  refine ok150.acalls hE hm (by simp) fun N hN => ?_
  unfold mc150
  simp only [lA, ptrCells, ptrAdd, isNil, readsV, readsP, isCall, wrote, srcOf, seval, e a ⟨ha1, ha2⟩, e b ⟨hb1, hb2⟩, wrapu (show a.natAbs < 2 ^ 64 by omega), wrapu (show b.natAbs < 2 ^ 64 by omega)]
  rw [← m3] at h1
  repeat' (first
   | (with_reducible apply St.o; constructor) <;> intro _
   | with_reducible first | refine LenR_i fun _ => ?_ | refine And.intro (by omega) ?_ | (apply Sp.o; constructor) | refine frz0_i ?_
   | ((with_reducible apply Sc.o true; constructor); simp only [lP, seval, e a ⟨ha1, ha2⟩, e b ⟨hb1, hb2⟩, wrapu (show a.natAbs < 2 ^ 64 by omega), wrapu (show b.natAbs < 2 ^ 64 by omega)]; refine ⟨_, h1, ?_⟩; rintro _ _ ⟨rfl, rfl⟩; simp only [lA, lP, ptrCells, ptrAdd, isNil, readsV, readsP, isCall, wrote, srcOf, seval, e a ⟨ha1, ha2⟩, e b ⟨hb1, hb2⟩, wrapu (show a.natAbs < 2 ^ 64 by omega), wrapu (show b.natAbs < 2 ^ 64 by omega)])
   | ((with_reducible refine keep0_i ?_); simp only [lP, seval])
   | simp (maxSteps := 1000000) (disch := omega) only [lE, ptrCells, ptrAdd, isNil, readsV, readsP, isCall, wrote, srcOf, seval, e a ⟨ha1, ha2⟩, e b ⟨hb1, hb2⟩, wrapu (show a.natAbs < 2 ^ 64 by omega), wrapu (show b.natAbs < 2 ^ 64 by omega)])
  all_goals clear h1
  all_goals (obtain ⟨s1, s2⟩ := sgn_mul a b; generalize a * b = p at *; generalize a.natAbs * b.natAbs = q at *)
  · exact ⟨_, rfl, by omega, by omega⟩
  · have := s1 (by assumption)
    exact ⟨_, rfl, by omega, by omega⟩
  · have := s2 (by assumption)
    exact ⟨_, rfl, by omega, by omega⟩
  · exact ⟨_, rfl, by omega, by omega⟩
end Go.Proofs.Try

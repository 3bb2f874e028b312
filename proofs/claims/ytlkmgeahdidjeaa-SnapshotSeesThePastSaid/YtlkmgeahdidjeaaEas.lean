/-
  A part of the proof: see the text of the law.
-/
import Derived.Test.YtlkmgeahdidjeaaPab
import Derived.Test.YtlkmgeahdidjeaaEae
set_option linter.unusedSimpArgs false
set_option linter.unusedVariables false
namespace Go.Proofs.Try
open Go.Al
set_option linter.unusedVariables false
set_option linter.unusedSimpArgs false
set_option maxRecDepth 20000
set_option maxHeartbeats 8000000

/-- The memory behind so many rounds: a box that stays, the box of the list, and where the list lies. -/
def colV (b0 lp : AObj) (x : List Ver) (G : Nat → Prop) (H : List AObj) : Prop :=
  H[0]? = some b0 ∧ H[2]? = some lp ∧ (∀ i, G i → 3 ≤ i ∧ i < H.length) ∧ 3 ≤ H.length ∧
    ((x = [] ∧ H[1]? = some (.box [.raw (.slice none 0 0)])) ∨ ∃ a, 3 ≤ a ∧ a < H.length ∧ ¬ G a ∧ H[1]? = some (.box [.slc a 4 x.length]) ∧ H[a]? = some (.arr 29 4 (x.map Ver.av)))
theorem colV_grows (b0 lp : AObj) : Grows (colV b0 lp) where
  push := fun x G H o ⟨h0, h2, hg, h3, h⟩ => by
    have ap : ∀ i, i < H.length → (H ++ [o])[i]? = H[i]? := fun i hi => List.getElem?_append_left hi
    refine ⟨by rw [ap 0 (by omega)]; exact h0, by rw [ap 2 (by omega)]; exact h2, fun i hi => ?_, by simp <;> omega, ?_⟩
    · rcases hi with hi | rfl
      · have := hg i hi; simp; omega
      · simp; omega
    · rcases h with ⟨hx, h1⟩ | ⟨a, a1, a2, a3, a4, a5⟩
      · exact .inl ⟨hx, by rw [ap 1 (by omega)]; exact h1⟩
      · refine .inr ⟨a, a1, by simp; omega, fun hc => ?_, by rw [ap 1 (by omega)]; exact a4, by rw [ap a a2]; exact a5⟩
        rcases hc with hc | hc
        · exact a3 hc
        · omega
  weak := fun x G G' H ⟨h0, h2, hg, h3, h⟩ hw => by
    refine ⟨h0, h2, fun i hi => hg i (hw i hi), h3, ?_⟩
    rcases h with h | ⟨a, a1, a2, a3, a4⟩
    · exact .inl h
    · exact .inr ⟨a, a1, a2, fun hc => a3 (hw a hc), a4⟩
  lt := fun x G H i ⟨_, _, hg, _⟩ hi => (hg i hi).2
/-- What a snapshot sees, row by row. -/
def rowF (snap : Int) (x : List Ver) (g : List Ver) : List Ver :=
  if 0 ≤ seesS g snap ∧ (g.getD (seesS g snap).toNat default).dead = false then x ++ [g.getD (seesS g snap).toNat default] else x
def snapRows (l : List Ver) (snap : Int) : List Ver := (groups (ordered l)).foldl (rowF snap) []
end Go.Proofs.Try

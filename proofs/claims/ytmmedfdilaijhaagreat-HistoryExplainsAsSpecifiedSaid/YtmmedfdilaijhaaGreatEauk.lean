/-
  A part of the proof: see the text of the law.
-/
import Derived.Test.YtmmedfdilaijhaaGreatEauj
set_option linter.unusedSimpArgs false
set_option linter.unusedVariables false
namespace Go.Proofs.Try
open Go.Proofs.Tryz
open Go.Al
set_option linter.unusedVariables false
set_option linter.unusedSimpArgs false
set_option maxRecDepth 20000
set_option maxHeartbeats 16000000

def sA : ByteArray := ⟨#[97]⟩
def sB : ByteArray := ⟨#[98]⟩
def sC : ByteArray := ⟨#[99]⟩
def exRep : Hap := ⟨2, 1, 1, [], []⟩
def exFail : Hap := ⟨4, 0, 0, [], []⟩
def exL : List Hap := [askH 1 sA [1], exRep, seeH 1 sA]
def exLost : List Hap := [askH 1 sA [1], exRep, exFail, ⟨5, 0, 0, [], []⟩]
def exM : List Hap := [askH 1 sA [1], askH 2 sB [1], exFail, seeH 1 sB]
def exN : List Hap := [askH 1 sA [1], askH 2 sB [1], exFail, seeH 2 sB]
def exHalf : List Hap := [askH 3 sC [1, 2], exFail, seeH 1 sC]
def exO : List Hap := [askH 1 sA [1], ⟨2, 1, 2, [], []⟩, seeH 2 sA]
def explainG (txs : List Int) (h : List Hap) : List Int × Bool × Int :=
  if rightB h = false then ([], false, 1)
  else if 8 < lenH h - (spansH h).2.1.length then ([], false, 2)
  else match srch h (seenL h) (lenH h).toNat (getM (spansH h).2.1) txs (fun tx => (getM (spansH h).1 tx).getD (0, 0)) ((lenH h).toNat + 1) [] with
    | some l => (l, true, 0)
    | none => ([], false, 0)
theorem explain_eq (h : List Hap) : explainH h = explainG (srt ((spansH h).1.map (·.1))) h := rfl
theorem srt_id {l : List Int} (h : l.Pairwise fun x y => x ≤ y) : srt l = l := (srt_perm l).eq_of_pairwise (fun a b _ _ h1 h2 => by omega) (srt_asc l) h
theorem ex_L : explainH exL = ([1], true, 0) := by rw [explain_eq, srt_id (by decide)]; kernel_rfl
theorem ex_Lost : explainH exLost = ([], false, 0) := by rw [explain_eq, srt_id (by decide)]; kernel_rfl
theorem ex_M : explainH exM = ([2], true, 0) := by rw [explain_eq, srt_id (by decide)]; kernel_rfl
theorem ex_N : explainH exN = ([1, 2], true, 0) := by rw [explain_eq, srt_id (by decide)]; kernel_rfl
theorem ex_Half : explainH exHalf = ([], false, 0) := by rw [explain_eq, srt_id (by decide)]; kernel_rfl
theorem ex_O : explainH exO = ([0, 1], true, 0) := by rw [explain_eq, srt_id (by decide)]; kernel_rfl
theorem ex_right : rightB exLost = true := by kernel_rfl
theorem ex_check : checkH exLost [1] = 3 := by kernel_rfl
end Go.Proofs.Try


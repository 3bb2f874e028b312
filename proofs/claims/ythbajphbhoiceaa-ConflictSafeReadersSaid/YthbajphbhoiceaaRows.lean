/-
  No cell of these rows narrows 'for every input' (looked for: loops, veiled, ifaces, maps, wideKeys, modest, calm, conditions, laid).
  DERIVED. THE GIVEN ROWS OF THIS SEAT. 13 by the template 'for every input the law returns true; each argument reads behind the call as it read before'; 0 by the template 'total and deterministic' (their statements: YthbajphbhoiceaaTotals.lean).
  GIVEN WITH THE SEED: the statements are not yours to turn. If you find one false, say at which input.
  Laid BY PROGRAM, IN A SANDBOX (cutbox-rows.mjs): the forced cells as the released guide's own fill.sh prints them over the translation 883951d32a9502db… (all of the seat's roots in one cut). By AI agents, Wed Nov 11 2026. No macro, syntax, notation, axiom, sorry.
-/
import Derived.Test.YthbajphbhoiceaaChecked
import GoSem.Claim
import GoSem.ClaimJoined
import GoSem.ClaimMapViews
import Derived.JoinedTies
import Derived.KernelRfl
namespace Go.Proofs.Ythbajphbhoiceaa
/- THE CELL 'sum', in the pinned program and in every row, IS THE sha256 OF THE DUMP (.gsa) THAT YthbajphbhoiceaaProg.lean LOADS. Nothing in Lean hashes anything: it is a label: what it is worth is what the hold of that sum in a sandbox is worth. -/
noncomputable def Try.pinned : Pinned := { name := "ythbajphbhoiceaa", sum := "883951d32a9502dbcc63612783ae313eca6358fdfae41c11a0467a83f228a54c", checked := Try.checked }
namespace Rows
def none {H : Type} : Left H := { results := [], args := [] }

/-- 'alumlaw26.ConflictCheckMatchesSpec': WHATEVER THE INPUT: true; the input reads as it did. -/
def conflictCheckMatchesSpecSpec : ChangeSpec := { name := "conflictCheckMatchesSpec", fn := fun _ => fun
  | [d] => { results := [.lit (.bool true)], args := [d] }
  | _ => none }
def conflictCheckMatchesSpecRow : OpenClaim := { program := "ythbajphbhoiceaa", sum := "883951d32a9502dbcc63612783ae313eca6358fdfae41c11a0467a83f228a54c", func := "alum/alumlaw26.ConflictCheckMatchesSpec", spec := "conflictCheckMatchesSpec", unfollowed := true, recurses := true, apart := false }
def ConflictCheckMatchesSpecSaid : Prop := conflictCheckMatchesSpecRow.holds Try.pinned (OpenSpec.ofChange conflictCheckMatchesSpecSpec)

/-- ITS FALSE NEIGHBOUR: 'it returns false'. Refute it at one input. -/
def conflictCheckMatchesSpecWrong : ChangeSpec := { name := "conflictCheckMatchesSpec", fn := fun _ => fun
  | [d] => { results := [.lit (.bool false)], args := [d] }
  | _ => none }
def ConflictCheckMatchesSpecWrongFalsely : Prop := conflictCheckMatchesSpecRow.holds Try.pinned (OpenSpec.ofChange conflictCheckMatchesSpecWrong)

/-- 'alumlaw26.ConflictEdgesMatchSpec': WHATEVER THE INPUT: true; the input reads as it did. -/
def conflictEdgesMatchSpecSpec : ChangeSpec := { name := "conflictEdgesMatchSpec", fn := fun _ => fun
  | [d] => { results := [.lit (.bool true)], args := [d] }
  | _ => none }
def conflictEdgesMatchSpecRow : OpenClaim := { program := "ythbajphbhoiceaa", sum := "883951d32a9502dbcc63612783ae313eca6358fdfae41c11a0467a83f228a54c", func := "alum/alumlaw26.ConflictEdgesMatchSpec", spec := "conflictEdgesMatchSpec", unfollowed := true, recurses := true, apart := false }
def ConflictEdgesMatchSpecSaid : Prop := conflictEdgesMatchSpecRow.holds Try.pinned (OpenSpec.ofChange conflictEdgesMatchSpecSpec)

/-- ITS FALSE NEIGHBOUR: 'it returns false'. Refute it at one input. -/
def conflictEdgesMatchSpecWrong : ChangeSpec := { name := "conflictEdgesMatchSpec", fn := fun _ => fun
  | [d] => { results := [.lit (.bool false)], args := [d] }
  | _ => none }
def ConflictEdgesMatchSpecWrongFalsely : Prop := conflictEdgesMatchSpecRow.holds Try.pinned (OpenSpec.ofChange conflictEdgesMatchSpecWrong)

/-- 'alumlaw26.ConflictDangerousMatchesSpec': WHATEVER THE INPUT: true; the input reads as it did. -/
def conflictDangerousMatchesSpecSpec : ChangeSpec := { name := "conflictDangerousMatchesSpec", fn := fun _ => fun
  | [d] => { results := [.lit (.bool true)], args := [d] }
  | _ => none }
def conflictDangerousMatchesSpecRow : OpenClaim := { program := "ythbajphbhoiceaa", sum := "883951d32a9502dbcc63612783ae313eca6358fdfae41c11a0467a83f228a54c", func := "alum/alumlaw26.ConflictDangerousMatchesSpec", spec := "conflictDangerousMatchesSpec", unfollowed := true, recurses := true, apart := false }
def ConflictDangerousMatchesSpecSaid : Prop := conflictDangerousMatchesSpecRow.holds Try.pinned (OpenSpec.ofChange conflictDangerousMatchesSpecSpec)

/-- ITS FALSE NEIGHBOUR: 'it returns false'. Refute it at one input. -/
def conflictDangerousMatchesSpecWrong : ChangeSpec := { name := "conflictDangerousMatchesSpec", fn := fun _ => fun
  | [d] => { results := [.lit (.bool false)], args := [d] }
  | _ => none }
def ConflictDangerousMatchesSpecWrongFalsely : Prop := conflictDangerousMatchesSpecRow.holds Try.pinned (OpenSpec.ofChange conflictDangerousMatchesSpecWrong)

/-- 'alumlaw26.ConflictSerialMatchesSpec': WHATEVER THE INPUT: true; the input reads as it did. -/
def conflictSerialMatchesSpecSpec : ChangeSpec := { name := "conflictSerialMatchesSpec", fn := fun _ => fun
  | [d] => { results := [.lit (.bool true)], args := [d] }
  | _ => none }
def conflictSerialMatchesSpecRow : OpenClaim := { program := "ythbajphbhoiceaa", sum := "883951d32a9502dbcc63612783ae313eca6358fdfae41c11a0467a83f228a54c", func := "alum/alumlaw26.ConflictSerialMatchesSpec", spec := "conflictSerialMatchesSpec", unfollowed := true, recurses := true, apart := false }
def ConflictSerialMatchesSpecSaid : Prop := conflictSerialMatchesSpecRow.holds Try.pinned (OpenSpec.ofChange conflictSerialMatchesSpecSpec)

/-- ITS FALSE NEIGHBOUR: 'it returns false'. Refute it at one input. -/
def conflictSerialMatchesSpecWrong : ChangeSpec := { name := "conflictSerialMatchesSpec", fn := fun _ => fun
  | [d] => { results := [.lit (.bool false)], args := [d] }
  | _ => none }
def ConflictSerialMatchesSpecWrongFalsely : Prop := conflictSerialMatchesSpecRow.holds Try.pinned (OpenSpec.ofChange conflictSerialMatchesSpecWrong)

/-- 'alumlaw26.ConflictEquivalentMatchesSpec': WHATEVER THE INPUT: true; the input reads as it did. -/
def conflictEquivalentMatchesSpecSpec : ChangeSpec := { name := "conflictEquivalentMatchesSpec", fn := fun _ => fun
  | [d1, d2] => { results := [.lit (.bool true)], args := [d1, d2] }
  | _ => none }
def conflictEquivalentMatchesSpecRow : OpenClaim := { program := "ythbajphbhoiceaa", sum := "883951d32a9502dbcc63612783ae313eca6358fdfae41c11a0467a83f228a54c", func := "alum/alumlaw26.ConflictEquivalentMatchesSpec", spec := "conflictEquivalentMatchesSpec", unfollowed := true, recurses := true, apart := false }
def ConflictEquivalentMatchesSpecSaid : Prop := conflictEquivalentMatchesSpecRow.holds Try.pinned (OpenSpec.ofChange conflictEquivalentMatchesSpecSpec)

/-- ITS FALSE NEIGHBOUR: 'it returns false'. Refute it at one input. -/
def conflictEquivalentMatchesSpecWrong : ChangeSpec := { name := "conflictEquivalentMatchesSpec", fn := fun _ => fun
  | [d1, d2] => { results := [.lit (.bool false)], args := [d1, d2] }
  | _ => none }
def ConflictEquivalentMatchesSpecWrongFalsely : Prop := conflictEquivalentMatchesSpecRow.holds Try.pinned (OpenSpec.ofChange conflictEquivalentMatchesSpecWrong)

/-- 'alumlaw26.ConflictAdmitMatchesSpec': WHATEVER THE INPUT: true; the input reads as it did. -/
def conflictAdmitMatchesSpecSpec : ChangeSpec := { name := "conflictAdmitMatchesSpec", fn := fun _ => fun
  | [d1, d2, d3] => { results := [.lit (.bool true)], args := [d1, d2, d3] }
  | _ => none }
def conflictAdmitMatchesSpecRow : OpenClaim := { program := "ythbajphbhoiceaa", sum := "883951d32a9502dbcc63612783ae313eca6358fdfae41c11a0467a83f228a54c", func := "alum/alumlaw26.ConflictAdmitMatchesSpec", spec := "conflictAdmitMatchesSpec", unfollowed := true, recurses := true, apart := false }
def ConflictAdmitMatchesSpecSaid : Prop := conflictAdmitMatchesSpecRow.holds Try.pinned (OpenSpec.ofChange conflictAdmitMatchesSpecSpec)

/-- ITS FALSE NEIGHBOUR: 'it returns false'. Refute it at one input. -/
def conflictAdmitMatchesSpecWrong : ChangeSpec := { name := "conflictAdmitMatchesSpec", fn := fun _ => fun
  | [d1, d2, d3] => { results := [.lit (.bool false)], args := [d1, d2, d3] }
  | _ => none }
def ConflictAdmitMatchesSpecWrongFalsely : Prop := conflictAdmitMatchesSpecRow.holds Try.pinned (OpenSpec.ofChange conflictAdmitMatchesSpecWrong)

/-- 'alumlaw26.ConflictNoStructureIsSerial': WHATEVER THE INPUT: true; the input reads as it did. -/
def conflictNoStructureIsSerialSpec : ChangeSpec := { name := "conflictNoStructureIsSerial", fn := fun _ => fun
  | [d] => { results := [.lit (.bool true)], args := [d] }
  | _ => none }
def conflictNoStructureIsSerialRow : OpenClaim := { program := "ythbajphbhoiceaa", sum := "883951d32a9502dbcc63612783ae313eca6358fdfae41c11a0467a83f228a54c", func := "alum/alumlaw26.ConflictNoStructureIsSerial", spec := "conflictNoStructureIsSerial", unfollowed := true, recurses := true, apart := false }
def ConflictNoStructureIsSerialSaid : Prop := conflictNoStructureIsSerialRow.holds Try.pinned (OpenSpec.ofChange conflictNoStructureIsSerialSpec)

/-- ITS FALSE NEIGHBOUR: 'it returns false'. Refute it at one input. -/
def conflictNoStructureIsSerialWrong : ChangeSpec := { name := "conflictNoStructureIsSerial", fn := fun _ => fun
  | [d] => { results := [.lit (.bool false)], args := [d] }
  | _ => none }
def ConflictNoStructureIsSerialWrongFalsely : Prop := conflictNoStructureIsSerialRow.holds Try.pinned (OpenSpec.ofChange conflictNoStructureIsSerialWrong)

/-- 'alumlaw26.ConflictSerialIsEquivalent': WHATEVER THE INPUT: true; the input reads as it did. -/
def conflictSerialIsEquivalentSpec : ChangeSpec := { name := "conflictSerialIsEquivalent", fn := fun _ => fun
  | [d] => { results := [.lit (.bool true)], args := [d] }
  | _ => none }
def conflictSerialIsEquivalentRow : OpenClaim := { program := "ythbajphbhoiceaa", sum := "883951d32a9502dbcc63612783ae313eca6358fdfae41c11a0467a83f228a54c", func := "alum/alumlaw26.ConflictSerialIsEquivalent", spec := "conflictSerialIsEquivalent", unfollowed := true, recurses := true, apart := false }
def ConflictSerialIsEquivalentSaid : Prop := conflictSerialIsEquivalentRow.holds Try.pinned (OpenSpec.ofChange conflictSerialIsEquivalentSpec)

/-- ITS FALSE NEIGHBOUR: 'it returns false'. Refute it at one input. -/
def conflictSerialIsEquivalentWrong : ChangeSpec := { name := "conflictSerialIsEquivalent", fn := fun _ => fun
  | [d] => { results := [.lit (.bool false)], args := [d] }
  | _ => none }
def ConflictSerialIsEquivalentWrongFalsely : Prop := conflictSerialIsEquivalentRow.holds Try.pinned (OpenSpec.ofChange conflictSerialIsEquivalentWrong)

/-- 'alumlaw26.ConflictOrdersFollowEdges': WHATEVER THE INPUT: true; the input reads as it did. -/
def conflictOrdersFollowEdgesSpec : ChangeSpec := { name := "conflictOrdersFollowEdges", fn := fun _ => fun
  | [d1, d2] => { results := [.lit (.bool true)], args := [d1, d2] }
  | _ => none }
def conflictOrdersFollowEdgesRow : OpenClaim := { program := "ythbajphbhoiceaa", sum := "883951d32a9502dbcc63612783ae313eca6358fdfae41c11a0467a83f228a54c", func := "alum/alumlaw26.ConflictOrdersFollowEdges", spec := "conflictOrdersFollowEdges", unfollowed := true, recurses := true, apart := false }
def ConflictOrdersFollowEdgesSaid : Prop := conflictOrdersFollowEdgesRow.holds Try.pinned (OpenSpec.ofChange conflictOrdersFollowEdgesSpec)

/-- ITS FALSE NEIGHBOUR: 'it returns false'. Refute it at one input. -/
def conflictOrdersFollowEdgesWrong : ChangeSpec := { name := "conflictOrdersFollowEdges", fn := fun _ => fun
  | [d1, d2] => { results := [.lit (.bool false)], args := [d1, d2] }
  | _ => none }
def ConflictOrdersFollowEdgesWrongFalsely : Prop := conflictOrdersFollowEdgesRow.holds Try.pinned (OpenSpec.ofChange conflictOrdersFollowEdgesWrong)

/-- 'alumlaw26.ConflictCyclesAreCycles': WHATEVER THE INPUT: true; the input reads as it did. -/
def conflictCyclesAreCyclesSpec : ChangeSpec := { name := "conflictCyclesAreCycles", fn := fun _ => fun
  | [d] => { results := [.lit (.bool true)], args := [d] }
  | _ => none }
def conflictCyclesAreCyclesRow : OpenClaim := { program := "ythbajphbhoiceaa", sum := "883951d32a9502dbcc63612783ae313eca6358fdfae41c11a0467a83f228a54c", func := "alum/alumlaw26.ConflictCyclesAreCycles", spec := "conflictCyclesAreCycles", unfollowed := true, recurses := true, apart := false }
def ConflictCyclesAreCyclesSaid : Prop := conflictCyclesAreCyclesRow.holds Try.pinned (OpenSpec.ofChange conflictCyclesAreCyclesSpec)

/-- ITS FALSE NEIGHBOUR: 'it returns false'. Refute it at one input. -/
def conflictCyclesAreCyclesWrong : ChangeSpec := { name := "conflictCyclesAreCycles", fn := fun _ => fun
  | [d] => { results := [.lit (.bool false)], args := [d] }
  | _ => none }
def ConflictCyclesAreCyclesWrongFalsely : Prop := conflictCyclesAreCyclesRow.holds Try.pinned (OpenSpec.ofChange conflictCyclesAreCyclesWrong)

/-- 'alumlaw26.ConflictAdmissionIsSerial': WHATEVER THE INPUT: true; the input reads as it did. -/
def conflictAdmissionIsSerialSpec : ChangeSpec := { name := "conflictAdmissionIsSerial", fn := fun _ => fun
  | [d] => { results := [.lit (.bool true)], args := [d] }
  | _ => none }
def conflictAdmissionIsSerialRow : OpenClaim := { program := "ythbajphbhoiceaa", sum := "883951d32a9502dbcc63612783ae313eca6358fdfae41c11a0467a83f228a54c", func := "alum/alumlaw26.ConflictAdmissionIsSerial", spec := "conflictAdmissionIsSerial", unfollowed := true, recurses := true, apart := false }
def ConflictAdmissionIsSerialSaid : Prop := conflictAdmissionIsSerialRow.holds Try.pinned (OpenSpec.ofChange conflictAdmissionIsSerialSpec)

/-- ITS FALSE NEIGHBOUR: 'it returns false'. Refute it at one input. -/
def conflictAdmissionIsSerialWrong : ChangeSpec := { name := "conflictAdmissionIsSerial", fn := fun _ => fun
  | [d] => { results := [.lit (.bool false)], args := [d] }
  | _ => none }
def ConflictAdmissionIsSerialWrongFalsely : Prop := conflictAdmissionIsSerialRow.holds Try.pinned (OpenSpec.ofChange conflictAdmissionIsSerialWrong)

/-- 'alumlaw26.ConflictFirstCommitterWins': WHATEVER THE INPUT: true; the input reads as it did. -/
def conflictFirstCommitterWinsSpec : ChangeSpec := { name := "conflictFirstCommitterWins", fn := fun _ => fun
  | [d] => { results := [.lit (.bool true)], args := [d] }
  | _ => none }
def conflictFirstCommitterWinsRow : OpenClaim := { program := "ythbajphbhoiceaa", sum := "883951d32a9502dbcc63612783ae313eca6358fdfae41c11a0467a83f228a54c", func := "alum/alumlaw26.ConflictFirstCommitterWins", spec := "conflictFirstCommitterWins", unfollowed := true, recurses := true, apart := false }
def ConflictFirstCommitterWinsSaid : Prop := conflictFirstCommitterWinsRow.holds Try.pinned (OpenSpec.ofChange conflictFirstCommitterWinsSpec)

/-- ITS FALSE NEIGHBOUR: 'it returns false'. Refute it at one input. -/
def conflictFirstCommitterWinsWrong : ChangeSpec := { name := "conflictFirstCommitterWins", fn := fun _ => fun
  | [d] => { results := [.lit (.bool false)], args := [d] }
  | _ => none }
def ConflictFirstCommitterWinsWrongFalsely : Prop := conflictFirstCommitterWinsRow.holds Try.pinned (OpenSpec.ofChange conflictFirstCommitterWinsWrong)

/-- 'alumlaw26.ConflictSafeReaders': WHATEVER THE INPUT: true; the input reads as it did. -/
def conflictSafeReadersSpec : ChangeSpec := { name := "conflictSafeReaders", fn := fun _ => fun
  | [d1, d2, d3, d4] => { results := [.lit (.bool true)], args := [d1, d2, d3, d4] }
  | _ => none }
def conflictSafeReadersRow : OpenClaim := { program := "ythbajphbhoiceaa", sum := "883951d32a9502dbcc63612783ae313eca6358fdfae41c11a0467a83f228a54c", func := "alum/alumlaw26.ConflictSafeReaders", spec := "conflictSafeReaders", unfollowed := true, recurses := true, apart := false }
def ConflictSafeReadersSaid : Prop := conflictSafeReadersRow.holds Try.pinned (OpenSpec.ofChange conflictSafeReadersSpec)

/-- ITS FALSE NEIGHBOUR: 'it returns false'. Refute it at one input. -/
def conflictSafeReadersWrong : ChangeSpec := { name := "conflictSafeReaders", fn := fun _ => fun
  | [d1, d2, d3, d4] => { results := [.lit (.bool false)], args := [d1, d2, d3, d4] }
  | _ => none }
def ConflictSafeReadersWrongFalsely : Prop := conflictSafeReadersRow.holds Try.pinned (OpenSpec.ofChange conflictSafeReadersWrong)

/- THE SECOND FORM. 'bulk': how many values and letters a reading holds, each counted each time it is reached (what is shared counts as often as it is met; a slice's spare places count too). A statement '..UptoSaid' is the law's where the arguments, and the package variables that the reading takes, are together of bulk at most 1048576: NARROWER than '..Said'. Prove '..Said' where nothing that the law and all that it calls make is longer than what came in: it says more and counts as full. Else prove '..UptoSaid'. A law counts once. -/
mutual
def uptoBulk {H : Type} : DataW H → Nat
  | .lit (.string bytes) => bytes.length + 1
  | .lit _ => 1
  | .nil => 1
  | .ptr d => uptoBulk d + 1
  | .slice elems spare => uptoBulkAll elems + uptoBulkAll spare + 1
  | .agg parts => uptoBulkAll parts + 1
  | .iface _ d => uptoBulk d + 1
  | .map entries => uptoBulkEntries entries + 1
  | .held _ => 1
def uptoBulkAll {H : Type} : List (DataW H) → Nat
  | [] => 0
  | d :: r => uptoBulk d + uptoBulkAll r
def uptoBulkEntries {H : Type} : List (Lit × DataW H) → Nat
  | [] => 0
  | x :: r => uptoBulkEntry x + uptoBulkEntries r
def uptoBulkEntry {H : Type} : Lit × DataW H → Nat
  | (.string bytes, d) => bytes.length + uptoBulk d + 1
  | (_, d) => uptoBulk d + 1
 end
def uptoSmall : (H : Type) → List (DataW H) → Bool := fun _ ds => decide (uptoBulkAll ds ≤ 1048576)
def OpenSpec.upto (s : _root_.Go.ChangeSpec) : _root_.Go.OpenSpec := { _root_.Go.OpenSpec.ofChange s with cond := some uptoSmall }

/-- 'alumlaw26.ConflictCheckMatchesSpec', WHERE WHAT IT READS IS OF BULK AT MOST 1048576: true; the input reads as it did. -/
def conflictCheckMatchesSpecUptoRow : OpenClaim := { program := "ythbajphbhoiceaa", sum := "883951d32a9502dbcc63612783ae313eca6358fdfae41c11a0467a83f228a54c", func := "alum/alumlaw26.ConflictCheckMatchesSpec", spec := "conflictCheckMatchesSpec", unfollowed := true, recurses := true, apart := false, narrowed := true }
def ConflictCheckMatchesSpecUptoSaid : Prop := conflictCheckMatchesSpecUptoRow.holds Try.pinned (OpenSpec.upto conflictCheckMatchesSpecSpec)

/-- 'alumlaw26.ConflictEdgesMatchSpec', WHERE WHAT IT READS IS OF BULK AT MOST 1048576: true; the input reads as it did. -/
def conflictEdgesMatchSpecUptoRow : OpenClaim := { program := "ythbajphbhoiceaa", sum := "883951d32a9502dbcc63612783ae313eca6358fdfae41c11a0467a83f228a54c", func := "alum/alumlaw26.ConflictEdgesMatchSpec", spec := "conflictEdgesMatchSpec", unfollowed := true, recurses := true, apart := false, narrowed := true }
def ConflictEdgesMatchSpecUptoSaid : Prop := conflictEdgesMatchSpecUptoRow.holds Try.pinned (OpenSpec.upto conflictEdgesMatchSpecSpec)

/-- 'alumlaw26.ConflictDangerousMatchesSpec', WHERE WHAT IT READS IS OF BULK AT MOST 1048576: true; the input reads as it did. -/
def conflictDangerousMatchesSpecUptoRow : OpenClaim := { program := "ythbajphbhoiceaa", sum := "883951d32a9502dbcc63612783ae313eca6358fdfae41c11a0467a83f228a54c", func := "alum/alumlaw26.ConflictDangerousMatchesSpec", spec := "conflictDangerousMatchesSpec", unfollowed := true, recurses := true, apart := false, narrowed := true }
def ConflictDangerousMatchesSpecUptoSaid : Prop := conflictDangerousMatchesSpecUptoRow.holds Try.pinned (OpenSpec.upto conflictDangerousMatchesSpecSpec)

/-- 'alumlaw26.ConflictSerialMatchesSpec', WHERE WHAT IT READS IS OF BULK AT MOST 1048576: true; the input reads as it did. -/
def conflictSerialMatchesSpecUptoRow : OpenClaim := { program := "ythbajphbhoiceaa", sum := "883951d32a9502dbcc63612783ae313eca6358fdfae41c11a0467a83f228a54c", func := "alum/alumlaw26.ConflictSerialMatchesSpec", spec := "conflictSerialMatchesSpec", unfollowed := true, recurses := true, apart := false, narrowed := true }
def ConflictSerialMatchesSpecUptoSaid : Prop := conflictSerialMatchesSpecUptoRow.holds Try.pinned (OpenSpec.upto conflictSerialMatchesSpecSpec)

/-- 'alumlaw26.ConflictEquivalentMatchesSpec', WHERE WHAT IT READS IS OF BULK AT MOST 1048576: true; the input reads as it did. -/
def conflictEquivalentMatchesSpecUptoRow : OpenClaim := { program := "ythbajphbhoiceaa", sum := "883951d32a9502dbcc63612783ae313eca6358fdfae41c11a0467a83f228a54c", func := "alum/alumlaw26.ConflictEquivalentMatchesSpec", spec := "conflictEquivalentMatchesSpec", unfollowed := true, recurses := true, apart := false, narrowed := true }
def ConflictEquivalentMatchesSpecUptoSaid : Prop := conflictEquivalentMatchesSpecUptoRow.holds Try.pinned (OpenSpec.upto conflictEquivalentMatchesSpecSpec)

/-- 'alumlaw26.ConflictAdmitMatchesSpec', WHERE WHAT IT READS IS OF BULK AT MOST 1048576: true; the input reads as it did. -/
def conflictAdmitMatchesSpecUptoRow : OpenClaim := { program := "ythbajphbhoiceaa", sum := "883951d32a9502dbcc63612783ae313eca6358fdfae41c11a0467a83f228a54c", func := "alum/alumlaw26.ConflictAdmitMatchesSpec", spec := "conflictAdmitMatchesSpec", unfollowed := true, recurses := true, apart := false, narrowed := true }
def ConflictAdmitMatchesSpecUptoSaid : Prop := conflictAdmitMatchesSpecUptoRow.holds Try.pinned (OpenSpec.upto conflictAdmitMatchesSpecSpec)

/-- 'alumlaw26.ConflictNoStructureIsSerial', WHERE WHAT IT READS IS OF BULK AT MOST 1048576: true; the input reads as it did. -/
def conflictNoStructureIsSerialUptoRow : OpenClaim := { program := "ythbajphbhoiceaa", sum := "883951d32a9502dbcc63612783ae313eca6358fdfae41c11a0467a83f228a54c", func := "alum/alumlaw26.ConflictNoStructureIsSerial", spec := "conflictNoStructureIsSerial", unfollowed := true, recurses := true, apart := false, narrowed := true }
def ConflictNoStructureIsSerialUptoSaid : Prop := conflictNoStructureIsSerialUptoRow.holds Try.pinned (OpenSpec.upto conflictNoStructureIsSerialSpec)

/-- 'alumlaw26.ConflictSerialIsEquivalent', WHERE WHAT IT READS IS OF BULK AT MOST 1048576: true; the input reads as it did. -/
def conflictSerialIsEquivalentUptoRow : OpenClaim := { program := "ythbajphbhoiceaa", sum := "883951d32a9502dbcc63612783ae313eca6358fdfae41c11a0467a83f228a54c", func := "alum/alumlaw26.ConflictSerialIsEquivalent", spec := "conflictSerialIsEquivalent", unfollowed := true, recurses := true, apart := false, narrowed := true }
def ConflictSerialIsEquivalentUptoSaid : Prop := conflictSerialIsEquivalentUptoRow.holds Try.pinned (OpenSpec.upto conflictSerialIsEquivalentSpec)

/-- 'alumlaw26.ConflictOrdersFollowEdges', WHERE WHAT IT READS IS OF BULK AT MOST 1048576: true; the input reads as it did. -/
def conflictOrdersFollowEdgesUptoRow : OpenClaim := { program := "ythbajphbhoiceaa", sum := "883951d32a9502dbcc63612783ae313eca6358fdfae41c11a0467a83f228a54c", func := "alum/alumlaw26.ConflictOrdersFollowEdges", spec := "conflictOrdersFollowEdges", unfollowed := true, recurses := true, apart := false, narrowed := true }
def ConflictOrdersFollowEdgesUptoSaid : Prop := conflictOrdersFollowEdgesUptoRow.holds Try.pinned (OpenSpec.upto conflictOrdersFollowEdgesSpec)

/-- 'alumlaw26.ConflictCyclesAreCycles', WHERE WHAT IT READS IS OF BULK AT MOST 1048576: true; the input reads as it did. -/
def conflictCyclesAreCyclesUptoRow : OpenClaim := { program := "ythbajphbhoiceaa", sum := "883951d32a9502dbcc63612783ae313eca6358fdfae41c11a0467a83f228a54c", func := "alum/alumlaw26.ConflictCyclesAreCycles", spec := "conflictCyclesAreCycles", unfollowed := true, recurses := true, apart := false, narrowed := true }
def ConflictCyclesAreCyclesUptoSaid : Prop := conflictCyclesAreCyclesUptoRow.holds Try.pinned (OpenSpec.upto conflictCyclesAreCyclesSpec)

/-- 'alumlaw26.ConflictAdmissionIsSerial', WHERE WHAT IT READS IS OF BULK AT MOST 1048576: true; the input reads as it did. -/
def conflictAdmissionIsSerialUptoRow : OpenClaim := { program := "ythbajphbhoiceaa", sum := "883951d32a9502dbcc63612783ae313eca6358fdfae41c11a0467a83f228a54c", func := "alum/alumlaw26.ConflictAdmissionIsSerial", spec := "conflictAdmissionIsSerial", unfollowed := true, recurses := true, apart := false, narrowed := true }
def ConflictAdmissionIsSerialUptoSaid : Prop := conflictAdmissionIsSerialUptoRow.holds Try.pinned (OpenSpec.upto conflictAdmissionIsSerialSpec)

/-- 'alumlaw26.ConflictFirstCommitterWins', WHERE WHAT IT READS IS OF BULK AT MOST 1048576: true; the input reads as it did. -/
def conflictFirstCommitterWinsUptoRow : OpenClaim := { program := "ythbajphbhoiceaa", sum := "883951d32a9502dbcc63612783ae313eca6358fdfae41c11a0467a83f228a54c", func := "alum/alumlaw26.ConflictFirstCommitterWins", spec := "conflictFirstCommitterWins", unfollowed := true, recurses := true, apart := false, narrowed := true }
def ConflictFirstCommitterWinsUptoSaid : Prop := conflictFirstCommitterWinsUptoRow.holds Try.pinned (OpenSpec.upto conflictFirstCommitterWinsSpec)

/-- 'alumlaw26.ConflictSafeReaders', WHERE WHAT IT READS IS OF BULK AT MOST 1048576: true; the input reads as it did. -/
def conflictSafeReadersUptoRow : OpenClaim := { program := "ythbajphbhoiceaa", sum := "883951d32a9502dbcc63612783ae313eca6358fdfae41c11a0467a83f228a54c", func := "alum/alumlaw26.ConflictSafeReaders", spec := "conflictSafeReaders", unfollowed := true, recurses := true, apart := false, narrowed := true }
def ConflictSafeReadersUptoSaid : Prop := conflictSafeReadersUptoRow.holds Try.pinned (OpenSpec.upto conflictSafeReadersSpec)

end Rows
end Go.Proofs.Ythbajphbhoiceaa

/-
  No cell of these rows narrows 'for every input' (looked for: loops, veiled, ifaces, maps, wideKeys, modest, calm, conditions, laid).
  DERIVED. THE GIVEN ROWS OF THIS SEAT. 2 by the template 'for every input the law returns true; each argument reads behind the call as it read before'; 0 by the template 'total and deterministic' (their statements: YtmmedfdilaijhaaTotals.lean).
  GIVEN WITH THE SEED: the statements are not yours to turn. If you find one false, say at which input.
  Laid BY PROGRAM, IN A SANDBOX (cutbox-rows.mjs): the forced cells as the released guide's own fill.sh prints them over the translation 3fd1e36081b5cfda… (all of the seat's roots in one cut). By AI agents, Wed Nov 11 2026. No macro, syntax, notation, axiom, sorry.
-/
import Derived.Test.YtmmedfdilaijhaaChecked
import GoSem.Claim
import GoSem.ClaimJoined
import GoSem.ClaimMapViews
import Derived.JoinedTies
import Derived.KernelRfl
namespace Go.Proofs.Ytmmedfdilaijhaa
/- THE CELL 'sum', in the pinned program and in every row, IS THE sha256 OF THE DUMP (.gsa) THAT YtmmedfdilaijhaaProg.lean LOADS. Nothing in Lean hashes anything: it is a label: what it is worth is what the hold of that sum in a sandbox is worth. -/
noncomputable def Try.pinned : Pinned := { name := "ytmmedfdilaijhaa", sum := "3fd1e36081b5cfda4355564aca737a383a305e4f8f3076d81e505b5fe92c5a07", checked := Try.checked }
namespace Rows
def none {H : Type} : Left H := { results := [], args := [] }

/-- 'alumlaw30.HistoryIsWhole': WHATEVER THE INPUT: true; the input reads as it did. -/
def historyIsWholeSpec : ChangeSpec := { name := "historyIsWhole", fn := fun _ => fun
  | [d1, d2] => { results := [.lit (.bool true)], args := [d1, d2] }
  | _ => none }
def historyIsWholeRow : OpenClaim := { program := "ytmmedfdilaijhaa", sum := "3fd1e36081b5cfda4355564aca737a383a305e4f8f3076d81e505b5fe92c5a07", func := "alum/alumlaw30.HistoryIsWhole", spec := "historyIsWhole", unfollowed := true, recurses := true, plainKeys := false, apart := false }
def HistoryIsWholeSaid : Prop := historyIsWholeRow.holds Try.pinned (OpenSpec.ofChange historyIsWholeSpec)

/-- ITS FALSE NEIGHBOUR: 'it returns false'. Refute it at one input. -/
def historyIsWholeWrong : ChangeSpec := { name := "historyIsWhole", fn := fun _ => fun
  | [d1, d2] => { results := [.lit (.bool false)], args := [d1, d2] }
  | _ => none }
def HistoryIsWholeWrongFalsely : Prop := historyIsWholeRow.holds Try.pinned (OpenSpec.ofChange historyIsWholeWrong)

/-- 'alumlaw30.HistoryBegins': WHATEVER THE INPUT: true; the input reads as it did. -/
def historyBeginsSpec : ChangeSpec := { name := "historyBegins", fn := fun _ => fun
  | [d1, d2, d3] => { results := [.lit (.bool true)], args := [d1, d2, d3] }
  | _ => none }
def historyBeginsRow : OpenClaim := { program := "ytmmedfdilaijhaa", sum := "3fd1e36081b5cfda4355564aca737a383a305e4f8f3076d81e505b5fe92c5a07", func := "alum/alumlaw30.HistoryBegins", spec := "historyBegins", unfollowed := true, recurses := true, plainKeys := false, apart := false }
def HistoryBeginsSaid : Prop := historyBeginsRow.holds Try.pinned (OpenSpec.ofChange historyBeginsSpec)

/-- ITS FALSE NEIGHBOUR: 'it returns false'. Refute it at one input. -/
def historyBeginsWrong : ChangeSpec := { name := "historyBegins", fn := fun _ => fun
  | [d1, d2, d3] => { results := [.lit (.bool false)], args := [d1, d2, d3] }
  | _ => none }
def HistoryBeginsWrongFalsely : Prop := historyBeginsRow.holds Try.pinned (OpenSpec.ofChange historyBeginsWrong)

/- THE SECOND FORM. 'bulk': how many values and letters a reading holds, each counted each time it is reached (what is shared counts as often as it is met; a slice's spare places count too). A statement '..UptoSaid' is the law's where the arguments, and the package variables that the reading takes, are together of bulk at most 1048576: NARROWER than '..Said'. Prove '..Said' where nothing that the law and all that it calls make is longer than what came in: it says more and counts as full. Else prove '..UptoSaid'. A law counts once. -/
mutual
def uptoBulk {H : Type} : DataW H → Nat
  | .lit (.string bytes) => bytes.length + 1
  | .lit _ => 1
  | .nil => 1
  | .ptr d => uptoBulk d + 1
  | .slice elems spare => uptoBulkAll elems + uptoBulkAll spare + 1
  | .agg parts => uptoBulkAll parts + 1
  | .iface _ d => uptoBulk d + 1
  | .map entries => uptoBulkEntries entries + 1
  | .held _ => 1
def uptoBulkAll {H : Type} : List (DataW H) → Nat
  | [] => 0
  | d :: r => uptoBulk d + uptoBulkAll r
def uptoBulkEntries {H : Type} : List (Lit × DataW H) → Nat
  | [] => 0
  | x :: r => uptoBulkEntry x + uptoBulkEntries r
def uptoBulkEntry {H : Type} : Lit × DataW H → Nat
  | (.string bytes, d) => bytes.length + uptoBulk d + 1
  | (_, d) => uptoBulk d + 1
 end
def uptoSmall : (H : Type) → List (DataW H) → Bool := fun _ ds => decide (uptoBulkAll ds ≤ 1048576)
def OpenSpec.upto (s : _root_.Go.ChangeSpec) : _root_.Go.OpenSpec := { _root_.Go.OpenSpec.ofChange s with cond := some uptoSmall }

/-- 'alumlaw30.HistoryIsWhole', WHERE WHAT IT READS IS OF BULK AT MOST 1048576: true; the input reads as it did. -/
def historyIsWholeUptoRow : OpenClaim := { program := "ytmmedfdilaijhaa", sum := "3fd1e36081b5cfda4355564aca737a383a305e4f8f3076d81e505b5fe92c5a07", func := "alum/alumlaw30.HistoryIsWhole", spec := "historyIsWhole", unfollowed := true, recurses := true, plainKeys := false, apart := false, narrowed := true }
def HistoryIsWholeUptoSaid : Prop := historyIsWholeUptoRow.holds Try.pinned (OpenSpec.upto historyIsWholeSpec)

/-- 'alumlaw30.HistoryBegins', WHERE WHAT IT READS IS OF BULK AT MOST 1048576: true; the input reads as it did. -/
def historyBeginsUptoRow : OpenClaim := { program := "ytmmedfdilaijhaa", sum := "3fd1e36081b5cfda4355564aca737a383a305e4f8f3076d81e505b5fe92c5a07", func := "alum/alumlaw30.HistoryBegins", spec := "historyBegins", unfollowed := true, recurses := true, plainKeys := false, apart := false, narrowed := true }
def HistoryBeginsUptoSaid : Prop := historyBeginsUptoRow.holds Try.pinned (OpenSpec.upto historyBeginsSpec)

end Rows
end Go.Proofs.Ytmmedfdilaijhaa

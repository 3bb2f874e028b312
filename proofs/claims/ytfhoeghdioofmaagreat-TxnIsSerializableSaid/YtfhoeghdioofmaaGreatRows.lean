/-
  No cell of these rows narrows 'for every input' (looked for: loops, veiled, ifaces, maps, wideKeys, modest, calm, conditions, laid).
  DERIVED. THE GIVEN ROWS OF THIS SEAT. 7 by the template 'for every input the law returns true; each argument reads behind the call as it read before'; 0 by the template 'total and deterministic' (their statements: YtfhoeghdioofmaaGreatTotals.lean).
  GIVEN WITH THE SEED: the statements are not yours to turn. If you find one false, say at which input.
  Laid BY PROGRAM, IN A SANDBOX (cutbox-rows.mjs): the forced cells as the released guide's own fill.sh prints them over the translation 336e8c6231ee098d… (all of the seat's roots in one cut). By AI agents, Wed Nov 11 2026. No macro, syntax, notation, axiom, sorry.
-/
import Derived.Test.YtfhoeghdioofmaaGreatChecked
import GoSem.Claim
import GoSem.ClaimJoined
import GoSem.ClaimMapViews
import Derived.JoinedTies
import Derived.KernelRfl
namespace Go.Proofs.YtfhoeghdioofmaaGreat
/- THE CELL 'sum', in the pinned program and in every row, IS THE sha256 OF THE DUMP (.gsa) THAT YtfhoeghdioofmaaGreatProg.lean LOADS. Nothing in Lean hashes anything: it is a label: what it is worth is what the hold of that sum in a sandbox is worth. -/
noncomputable def Tryz.pinned : Pinned := { name := "ytfhoeghdioofmaagreat", sum := "336e8c6231ee098d6b113e61a08c1bd04178cf11655830e86d7abd5b653115b4", checked := Tryz.checked }
namespace Rows
def none {H : Type} : Left H := { results := [], args := [] }

/-- 'alumlaw27.TxnHistoryIsValid': WHATEVER THE INPUT: true; the input reads as it did. -/
def txnHistoryIsValidSpec : ChangeSpec := { name := "txnHistoryIsValid", fn := fun _ => fun
  | [d1, d2] => { results := [.lit (.bool true)], args := [d1, d2] }
  | _ => none }
def txnHistoryIsValidRow : OpenClaim := { program := "ytfhoeghdioofmaagreat", sum := "336e8c6231ee098d6b113e61a08c1bd04178cf11655830e86d7abd5b653115b4", func := "alum/alumlaw27.TxnHistoryIsValid", spec := "txnHistoryIsValid", unfollowed := true, recurses := true, plainKeys := false, apart := false }
def TxnHistoryIsValidSaid : Prop := txnHistoryIsValidRow.holds Tryz.pinned (OpenSpec.ofChange txnHistoryIsValidSpec)

/-- ITS FALSE NEIGHBOUR: 'it returns false'. Refute it at one input. -/
def txnHistoryIsValidWrong : ChangeSpec := { name := "txnHistoryIsValid", fn := fun _ => fun
  | [d1, d2] => { results := [.lit (.bool false)], args := [d1, d2] }
  | _ => none }
def TxnHistoryIsValidWrongFalsely : Prop := txnHistoryIsValidRow.holds Tryz.pinned (OpenSpec.ofChange txnHistoryIsValidWrong)

/-- 'alumlaw27.TxnFirstCommitterWins': WHATEVER THE INPUT: true; the input reads as it did. -/
def txnFirstCommitterWinsSpec : ChangeSpec := { name := "txnFirstCommitterWins", fn := fun _ => fun
  | [d1, d2] => { results := [.lit (.bool true)], args := [d1, d2] }
  | _ => none }
def txnFirstCommitterWinsRow : OpenClaim := { program := "ytfhoeghdioofmaagreat", sum := "336e8c6231ee098d6b113e61a08c1bd04178cf11655830e86d7abd5b653115b4", func := "alum/alumlaw27.TxnFirstCommitterWins", spec := "txnFirstCommitterWins", unfollowed := true, recurses := true, plainKeys := false, apart := false }
def TxnFirstCommitterWinsSaid : Prop := txnFirstCommitterWinsRow.holds Tryz.pinned (OpenSpec.ofChange txnFirstCommitterWinsSpec)

/-- ITS FALSE NEIGHBOUR: 'it returns false'. Refute it at one input. -/
def txnFirstCommitterWinsWrong : ChangeSpec := { name := "txnFirstCommitterWins", fn := fun _ => fun
  | [d1, d2] => { results := [.lit (.bool false)], args := [d1, d2] }
  | _ => none }
def TxnFirstCommitterWinsWrongFalsely : Prop := txnFirstCommitterWinsRow.holds Tryz.pinned (OpenSpec.ofChange txnFirstCommitterWinsWrong)

/-- 'alumlaw27.TxnForgetsNothing': WHATEVER THE INPUT: true; the input reads as it did. -/
def txnForgetsNothingSpec : ChangeSpec := { name := "txnForgetsNothing", fn := fun _ => fun
  | [d1, d2] => { results := [.lit (.bool true)], args := [d1, d2] }
  | _ => none }
def txnForgetsNothingRow : OpenClaim := { program := "ytfhoeghdioofmaagreat", sum := "336e8c6231ee098d6b113e61a08c1bd04178cf11655830e86d7abd5b653115b4", func := "alum/alumlaw27.TxnForgetsNothing", spec := "txnForgetsNothing", unfollowed := true, recurses := true, plainKeys := false, apart := false }
def TxnForgetsNothingSaid : Prop := txnForgetsNothingRow.holds Tryz.pinned (OpenSpec.ofChange txnForgetsNothingSpec)

/-- ITS FALSE NEIGHBOUR: 'it returns false'. Refute it at one input. -/
def txnForgetsNothingWrong : ChangeSpec := { name := "txnForgetsNothing", fn := fun _ => fun
  | [d1, d2] => { results := [.lit (.bool false)], args := [d1, d2] }
  | _ => none }
def TxnForgetsNothingWrongFalsely : Prop := txnForgetsNothingRow.holds Tryz.pinned (OpenSpec.ofChange txnForgetsNothingWrong)

/-- 'alumlaw27.TxnSavepoints': WHATEVER THE INPUT: true; the input reads as it did. -/
def txnSavepointsSpec : ChangeSpec := { name := "txnSavepoints", fn := fun _ => fun
  | [d1, d2, d3, d4, d5] => { results := [.lit (.bool true)], args := [d1, d2, d3, d4, d5] }
  | _ => none }
def txnSavepointsRow : OpenClaim := { program := "ytfhoeghdioofmaagreat", sum := "336e8c6231ee098d6b113e61a08c1bd04178cf11655830e86d7abd5b653115b4", func := "alum/alumlaw27.TxnSavepoints", spec := "txnSavepoints", unfollowed := true, recurses := true, plainKeys := false, apart := false }
def TxnSavepointsSaid : Prop := txnSavepointsRow.holds Tryz.pinned (OpenSpec.ofChange txnSavepointsSpec)

/-- ITS FALSE NEIGHBOUR: 'it returns false'. Refute it at one input. -/
def txnSavepointsWrong : ChangeSpec := { name := "txnSavepoints", fn := fun _ => fun
  | [d1, d2, d3, d4, d5] => { results := [.lit (.bool false)], args := [d1, d2, d3, d4, d5] }
  | _ => none }
def TxnSavepointsWrongFalsely : Prop := txnSavepointsRow.holds Tryz.pinned (OpenSpec.ofChange txnSavepointsWrong)

/-- 'alumlaw27.TxnConflictsAreNewer': WHATEVER THE INPUT: true; the input reads as it did. -/
def txnConflictsAreNewerSpec : ChangeSpec := { name := "txnConflictsAreNewer", fn := fun _ => fun
  | [d1, d2] => { results := [.lit (.bool true)], args := [d1, d2] }
  | _ => none }
def txnConflictsAreNewerRow : OpenClaim := { program := "ytfhoeghdioofmaagreat", sum := "336e8c6231ee098d6b113e61a08c1bd04178cf11655830e86d7abd5b653115b4", func := "alum/alumlaw27.TxnConflictsAreNewer", spec := "txnConflictsAreNewer", unfollowed := true, recurses := true, plainKeys := false, apart := false }
def TxnConflictsAreNewerSaid : Prop := txnConflictsAreNewerRow.holds Tryz.pinned (OpenSpec.ofChange txnConflictsAreNewerSpec)

/-- ITS FALSE NEIGHBOUR: 'it returns false'. Refute it at one input. -/
def txnConflictsAreNewerWrong : ChangeSpec := { name := "txnConflictsAreNewer", fn := fun _ => fun
  | [d1, d2] => { results := [.lit (.bool false)], args := [d1, d2] }
  | _ => none }
def TxnConflictsAreNewerWrongFalsely : Prop := txnConflictsAreNewerRow.holds Tryz.pinned (OpenSpec.ofChange txnConflictsAreNewerWrong)

/-- 'alumlaw27.TxnMatchesSpec': WHATEVER THE INPUT: true; the input reads as it did. -/
def txnMatchesSpecSpec : ChangeSpec := { name := "txnMatchesSpec", fn := fun _ => fun
  | [d1, d2, d3, d4, d5] => { results := [.lit (.bool true)], args := [d1, d2, d3, d4, d5] }
  | _ => none }
def txnMatchesSpecRow : OpenClaim := { program := "ytfhoeghdioofmaagreat", sum := "336e8c6231ee098d6b113e61a08c1bd04178cf11655830e86d7abd5b653115b4", func := "alum/alumlaw27.TxnMatchesSpec", spec := "txnMatchesSpec", unfollowed := true, recurses := true, plainKeys := false, apart := false }
def TxnMatchesSpecSaid : Prop := txnMatchesSpecRow.holds Tryz.pinned (OpenSpec.ofChange txnMatchesSpecSpec)

/-- ITS FALSE NEIGHBOUR: 'it returns false'. Refute it at one input. -/
def txnMatchesSpecWrong : ChangeSpec := { name := "txnMatchesSpec", fn := fun _ => fun
  | [d1, d2, d3, d4, d5] => { results := [.lit (.bool false)], args := [d1, d2, d3, d4, d5] }
  | _ => none }
def TxnMatchesSpecWrongFalsely : Prop := txnMatchesSpecRow.holds Tryz.pinned (OpenSpec.ofChange txnMatchesSpecWrong)

/-- 'alumlaw27.TxnIsSerializable': WHATEVER THE INPUT: true; the input reads as it did. -/
def txnIsSerializableSpec : ChangeSpec := { name := "txnIsSerializable", fn := fun _ => fun
  | [d1, d2] => { results := [.lit (.bool true)], args := [d1, d2] }
  | _ => none }
def txnIsSerializableRow : OpenClaim := { program := "ytfhoeghdioofmaagreat", sum := "336e8c6231ee098d6b113e61a08c1bd04178cf11655830e86d7abd5b653115b4", func := "alum/alumlaw27.TxnIsSerializable", spec := "txnIsSerializable", unfollowed := true, recurses := true, plainKeys := false, apart := false }
def TxnIsSerializableSaid : Prop := txnIsSerializableRow.holds Tryz.pinned (OpenSpec.ofChange txnIsSerializableSpec)

/-- ITS FALSE NEIGHBOUR: 'it returns false'. Refute it at one input. -/
def txnIsSerializableWrong : ChangeSpec := { name := "txnIsSerializable", fn := fun _ => fun
  | [d1, d2] => { results := [.lit (.bool false)], args := [d1, d2] }
  | _ => none }
def TxnIsSerializableWrongFalsely : Prop := txnIsSerializableRow.holds Tryz.pinned (OpenSpec.ofChange txnIsSerializableWrong)

/- THE SECOND FORM. 'bulk': how many values and letters a reading holds, each counted each time it is reached (what is shared counts as often as it is met; a slice's spare places count too). A statement '..UptoSaid' is the law's where the arguments, and the package variables that the reading takes, are together of bulk at most 1048576: NARROWER than '..Said'. Prove '..Said' where nothing that the law and all that it calls make is longer than what came in: it says more and counts as full. Else prove '..UptoSaid'. A law counts once. -/
mutual
def uptoBulk {H : Type} : DataW H → Nat
  | .lit (.string bytes) => bytes.length + 1
  | .lit _ => 1
  | .nil => 1
  | .ptr d => uptoBulk d + 1
  | .slice elems spare => uptoBulkAll elems + uptoBulkAll spare + 1
  | .agg parts => uptoBulkAll parts + 1
  | .iface _ d => uptoBulk d + 1
  | .map entries => uptoBulkEntries entries + 1
  | .held _ => 1
def uptoBulkAll {H : Type} : List (DataW H) → Nat
  | [] => 0
  | d :: r => uptoBulk d + uptoBulkAll r
def uptoBulkEntries {H : Type} : List (Lit × DataW H) → Nat
  | [] => 0
  | x :: r => uptoBulkEntry x + uptoBulkEntries r
def uptoBulkEntry {H : Type} : Lit × DataW H → Nat
  | (.string bytes, d) => bytes.length + uptoBulk d + 1
  | (_, d) => uptoBulk d + 1
 end
def uptoSmall : (H : Type) → List (DataW H) → Bool := fun _ ds => decide (uptoBulkAll ds ≤ 1048576)
def OpenSpec.upto (s : _root_.Go.ChangeSpec) : _root_.Go.OpenSpec := { _root_.Go.OpenSpec.ofChange s with cond := some uptoSmall }

/-- 'alumlaw27.TxnHistoryIsValid', WHERE WHAT IT READS IS OF BULK AT MOST 1048576: true; the input reads as it did. -/
def txnHistoryIsValidUptoRow : OpenClaim := { program := "ytfhoeghdioofmaagreat", sum := "336e8c6231ee098d6b113e61a08c1bd04178cf11655830e86d7abd5b653115b4", func := "alum/alumlaw27.TxnHistoryIsValid", spec := "txnHistoryIsValid", unfollowed := true, recurses := true, plainKeys := false, apart := false, narrowed := true }
def TxnHistoryIsValidUptoSaid : Prop := txnHistoryIsValidUptoRow.holds Tryz.pinned (OpenSpec.upto txnHistoryIsValidSpec)

/-- 'alumlaw27.TxnFirstCommitterWins', WHERE WHAT IT READS IS OF BULK AT MOST 1048576: true; the input reads as it did. -/
def txnFirstCommitterWinsUptoRow : OpenClaim := { program := "ytfhoeghdioofmaagreat", sum := "336e8c6231ee098d6b113e61a08c1bd04178cf11655830e86d7abd5b653115b4", func := "alum/alumlaw27.TxnFirstCommitterWins", spec := "txnFirstCommitterWins", unfollowed := true, recurses := true, plainKeys := false, apart := false, narrowed := true }
def TxnFirstCommitterWinsUptoSaid : Prop := txnFirstCommitterWinsUptoRow.holds Tryz.pinned (OpenSpec.upto txnFirstCommitterWinsSpec)

/-- 'alumlaw27.TxnForgetsNothing', WHERE WHAT IT READS IS OF BULK AT MOST 1048576: true; the input reads as it did. -/
def txnForgetsNothingUptoRow : OpenClaim := { program := "ytfhoeghdioofmaagreat", sum := "336e8c6231ee098d6b113e61a08c1bd04178cf11655830e86d7abd5b653115b4", func := "alum/alumlaw27.TxnForgetsNothing", spec := "txnForgetsNothing", unfollowed := true, recurses := true, plainKeys := false, apart := false, narrowed := true }
def TxnForgetsNothingUptoSaid : Prop := txnForgetsNothingUptoRow.holds Tryz.pinned (OpenSpec.upto txnForgetsNothingSpec)

/-- 'alumlaw27.TxnSavepoints', WHERE WHAT IT READS IS OF BULK AT MOST 1048576: true; the input reads as it did. -/
def txnSavepointsUptoRow : OpenClaim := { program := "ytfhoeghdioofmaagreat", sum := "336e8c6231ee098d6b113e61a08c1bd04178cf11655830e86d7abd5b653115b4", func := "alum/alumlaw27.TxnSavepoints", spec := "txnSavepoints", unfollowed := true, recurses := true, plainKeys := false, apart := false, narrowed := true }
def TxnSavepointsUptoSaid : Prop := txnSavepointsUptoRow.holds Tryz.pinned (OpenSpec.upto txnSavepointsSpec)

/-- 'alumlaw27.TxnConflictsAreNewer', WHERE WHAT IT READS IS OF BULK AT MOST 1048576: true; the input reads as it did. -/
def txnConflictsAreNewerUptoRow : OpenClaim := { program := "ytfhoeghdioofmaagreat", sum := "336e8c6231ee098d6b113e61a08c1bd04178cf11655830e86d7abd5b653115b4", func := "alum/alumlaw27.TxnConflictsAreNewer", spec := "txnConflictsAreNewer", unfollowed := true, recurses := true, plainKeys := false, apart := false, narrowed := true }
def TxnConflictsAreNewerUptoSaid : Prop := txnConflictsAreNewerUptoRow.holds Tryz.pinned (OpenSpec.upto txnConflictsAreNewerSpec)

/-- 'alumlaw27.TxnMatchesSpec', WHERE WHAT IT READS IS OF BULK AT MOST 1048576: true; the input reads as it did. -/
def txnMatchesSpecUptoRow : OpenClaim := { program := "ytfhoeghdioofmaagreat", sum := "336e8c6231ee098d6b113e61a08c1bd04178cf11655830e86d7abd5b653115b4", func := "alum/alumlaw27.TxnMatchesSpec", spec := "txnMatchesSpec", unfollowed := true, recurses := true, plainKeys := false, apart := false, narrowed := true }
def TxnMatchesSpecUptoSaid : Prop := txnMatchesSpecUptoRow.holds Tryz.pinned (OpenSpec.upto txnMatchesSpecSpec)

/-- 'alumlaw27.TxnIsSerializable', WHERE WHAT IT READS IS OF BULK AT MOST 1048576: true; the input reads as it did. -/
def txnIsSerializableUptoRow : OpenClaim := { program := "ytfhoeghdioofmaagreat", sum := "336e8c6231ee098d6b113e61a08c1bd04178cf11655830e86d7abd5b653115b4", func := "alum/alumlaw27.TxnIsSerializable", spec := "txnIsSerializable", unfollowed := true, recurses := true, plainKeys := false, apart := false, narrowed := true }
def TxnIsSerializableUptoSaid : Prop := txnIsSerializableUptoRow.holds Tryz.pinned (OpenSpec.upto txnIsSerializableSpec)

end Rows
end Go.Proofs.YtfhoeghdioofmaaGreat

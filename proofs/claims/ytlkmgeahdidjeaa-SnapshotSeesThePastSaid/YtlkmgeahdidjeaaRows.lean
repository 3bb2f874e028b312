/-
  No cell of these rows narrows 'for every input' (looked for: loops, veiled, ifaces, maps, wideKeys, modest, calm, conditions, laid).
  DERIVED. THE GIVEN ROWS OF THIS SEAT. 5 by the template 'for every input the law returns true; each argument reads behind the call as it read before'; 0 by the template 'total and deterministic' (their statements: YtlkmgeahdidjeaaTotals.lean).
  GIVEN WITH THE SEED: the statements are not yours to turn. If you find one false, say at which input.
  Laid BY PROGRAM, IN A SANDBOX (cutbox-rows.mjs): the forced cells as the released guide's own fill.sh prints them over the translation 77b3d45cea2212d5… (all of the seat's roots in one cut). By AI agents, Wed Nov 11 2026. No macro, syntax, notation, axiom, sorry.
-/
import Derived.Test.YtlkmgeahdidjeaaChecked
import GoSem.Claim
import GoSem.ClaimJoined
import GoSem.ClaimMapViews
import Derived.JoinedTies
import Derived.KernelRfl
namespace Go.Proofs.Ytlkmgeahdidjeaa
/- THE CELL 'sum', in the pinned program and in every row, IS THE sha256 OF THE DUMP (.gsa) THAT YtlkmgeahdidjeaaProg.lean LOADS. Nothing in Lean hashes anything: it is a label: what it is worth is what the hold of that sum in a sandbox is worth. -/
noncomputable def Try.pinned : Pinned := { name := "ytlkmgeahdidjeaa", sum := "77b3d45cea2212d5b0b7317e857dc3fb57188363d29ce79d20372cb487854e90", checked := Try.checked }
namespace Rows
def none {H : Type} : Left H := { results := [], args := [] }

/-- 'alumlaw25.SnapshotChecksAsSpecified': WHATEVER THE INPUT: true; the input reads as it did. -/
def snapshotChecksAsSpecifiedSpec : ChangeSpec := { name := "snapshotChecksAsSpecified", fn := fun _ => fun
  | [d] => { results := [.lit (.bool true)], args := [d] }
  | _ => none }
def snapshotChecksAsSpecifiedRow : OpenClaim := { program := "ytlkmgeahdidjeaa", sum := "77b3d45cea2212d5b0b7317e857dc3fb57188363d29ce79d20372cb487854e90", func := "alum/alumlaw25.SnapshotChecksAsSpecified", spec := "snapshotChecksAsSpecified", unfollowed := true, recurses := true, plainKeys := false, apart := false }
def SnapshotChecksAsSpecifiedSaid : Prop := snapshotChecksAsSpecifiedRow.holds Try.pinned (OpenSpec.ofChange snapshotChecksAsSpecifiedSpec)

/-- ITS FALSE NEIGHBOUR: 'it returns false'. Refute it at one input. -/
def snapshotChecksAsSpecifiedWrong : ChangeSpec := { name := "snapshotChecksAsSpecified", fn := fun _ => fun
  | [d] => { results := [.lit (.bool false)], args := [d] }
  | _ => none }
def SnapshotChecksAsSpecifiedWrongFalsely : Prop := snapshotChecksAsSpecifiedRow.holds Try.pinned (OpenSpec.ofChange snapshotChecksAsSpecifiedWrong)

/-- 'alumlaw25.SnapshotMatchesSpec': WHATEVER THE INPUT: true; the input reads as it did. -/
def snapshotMatchesSpecSpec : ChangeSpec := { name := "snapshotMatchesSpec", fn := fun _ => fun
  | [d1, d2, d3, d4, d5] => { results := [.lit (.bool true)], args := [d1, d2, d3, d4, d5] }
  | _ => none }
def snapshotMatchesSpecRow : OpenClaim := { program := "ytlkmgeahdidjeaa", sum := "77b3d45cea2212d5b0b7317e857dc3fb57188363d29ce79d20372cb487854e90", func := "alum/alumlaw25.SnapshotMatchesSpec", spec := "snapshotMatchesSpec", unfollowed := true, recurses := true, plainKeys := false, apart := false }
def SnapshotMatchesSpecSaid : Prop := snapshotMatchesSpecRow.holds Try.pinned (OpenSpec.ofChange snapshotMatchesSpecSpec)

/-- ITS FALSE NEIGHBOUR: 'it returns false'. Refute it at one input. -/
def snapshotMatchesSpecWrong : ChangeSpec := { name := "snapshotMatchesSpec", fn := fun _ => fun
  | [d1, d2, d3, d4, d5] => { results := [.lit (.bool false)], args := [d1, d2, d3, d4, d5] }
  | _ => none }
def SnapshotMatchesSpecWrongFalsely : Prop := snapshotMatchesSpecRow.holds Try.pinned (OpenSpec.ofChange snapshotMatchesSpecWrong)

/-- 'alumlaw25.SnapshotUnchanged': WHATEVER THE INPUT: true; the input reads as it did. -/
def snapshotUnchangedSpec : ChangeSpec := { name := "snapshotUnchanged", fn := fun _ => fun
  | [d1, d2, d3, d4] => { results := [.lit (.bool true)], args := [d1, d2, d3, d4] }
  | _ => none }
def snapshotUnchangedRow : OpenClaim := { program := "ytlkmgeahdidjeaa", sum := "77b3d45cea2212d5b0b7317e857dc3fb57188363d29ce79d20372cb487854e90", func := "alum/alumlaw25.SnapshotUnchanged", spec := "snapshotUnchanged", unfollowed := true, recurses := true, plainKeys := false, apart := false }
def SnapshotUnchangedSaid : Prop := snapshotUnchangedRow.holds Try.pinned (OpenSpec.ofChange snapshotUnchangedSpec)

/-- ITS FALSE NEIGHBOUR: 'it returns false'. Refute it at one input. -/
def snapshotUnchangedWrong : ChangeSpec := { name := "snapshotUnchanged", fn := fun _ => fun
  | [d1, d2, d3, d4] => { results := [.lit (.bool false)], args := [d1, d2, d3, d4] }
  | _ => none }
def SnapshotUnchangedWrongFalsely : Prop := snapshotUnchangedRow.holds Try.pinned (OpenSpec.ofChange snapshotUnchangedWrong)

/-- 'alumlaw25.SnapshotAddsAsSpecified': WHATEVER THE INPUT: true; the input reads as it did. -/
def snapshotAddsAsSpecifiedSpec : ChangeSpec := { name := "snapshotAddsAsSpecified", fn := fun _ => fun
  | [d1, d2, d3] => { results := [.lit (.bool true)], args := [d1, d2, d3] }
  | _ => none }
def snapshotAddsAsSpecifiedRow : OpenClaim := { program := "ytlkmgeahdidjeaa", sum := "77b3d45cea2212d5b0b7317e857dc3fb57188363d29ce79d20372cb487854e90", func := "alum/alumlaw25.SnapshotAddsAsSpecified", spec := "snapshotAddsAsSpecified", unfollowed := true, recurses := true, plainKeys := false, apart := false }
def SnapshotAddsAsSpecifiedSaid : Prop := snapshotAddsAsSpecifiedRow.holds Try.pinned (OpenSpec.ofChange snapshotAddsAsSpecifiedSpec)

/-- ITS FALSE NEIGHBOUR: 'it returns false'. Refute it at one input. -/
def snapshotAddsAsSpecifiedWrong : ChangeSpec := { name := "snapshotAddsAsSpecified", fn := fun _ => fun
  | [d1, d2, d3] => { results := [.lit (.bool false)], args := [d1, d2, d3] }
  | _ => none }
def SnapshotAddsAsSpecifiedWrongFalsely : Prop := snapshotAddsAsSpecifiedRow.holds Try.pinned (OpenSpec.ofChange snapshotAddsAsSpecifiedWrong)

/-- 'alumlaw25.SnapshotSeesThePast': WHATEVER THE INPUT: true; the input reads as it did. -/
def snapshotSeesThePastSpec : ChangeSpec := { name := "snapshotSeesThePast", fn := fun _ => fun
  | [d1, d2, d3, d4] => { results := [.lit (.bool true)], args := [d1, d2, d3, d4] }
  | _ => none }
def snapshotSeesThePastRow : OpenClaim := { program := "ytlkmgeahdidjeaa", sum := "77b3d45cea2212d5b0b7317e857dc3fb57188363d29ce79d20372cb487854e90", func := "alum/alumlaw25.SnapshotSeesThePast", spec := "snapshotSeesThePast", unfollowed := true, recurses := true, plainKeys := false, apart := false }
def SnapshotSeesThePastSaid : Prop := snapshotSeesThePastRow.holds Try.pinned (OpenSpec.ofChange snapshotSeesThePastSpec)

/-- ITS FALSE NEIGHBOUR: 'it returns false'. Refute it at one input. -/
def snapshotSeesThePastWrong : ChangeSpec := { name := "snapshotSeesThePast", fn := fun _ => fun
  | [d1, d2, d3, d4] => { results := [.lit (.bool false)], args := [d1, d2, d3, d4] }
  | _ => none }
def SnapshotSeesThePastWrongFalsely : Prop := snapshotSeesThePastRow.holds Try.pinned (OpenSpec.ofChange snapshotSeesThePastWrong)

/- THE SECOND FORM. 'bulk': how many values and letters a reading holds, each counted each time it is reached (what is shared counts as often as it is met; a slice's spare places count too). A statement '..UptoSaid' is the law's where the arguments, and the package variables that the reading takes, are together of bulk at most 1048576: NARROWER than '..Said'. Prove '..Said' where nothing that the law and all that it calls make is longer than what came in: it says more and counts as full. Else prove '..UptoSaid'. A law counts once. -/
mutual
def uptoBulk {H : Type} : DataW H → Nat
  | .lit (.string bytes) => bytes.length + 1
  | .lit _ => 1
  | .nil => 1
  | .ptr d => uptoBulk d + 1
  | .slice elems spare => uptoBulkAll elems + uptoBulkAll spare + 1
  | .agg parts => uptoBulkAll parts + 1
  | .iface _ d => uptoBulk d + 1
  | .map entries => uptoBulkEntries entries + 1
  | .held _ => 1
def uptoBulkAll {H : Type} : List (DataW H) → Nat
  | [] => 0
  | d :: r => uptoBulk d + uptoBulkAll r
def uptoBulkEntries {H : Type} : List (Lit × DataW H) → Nat
  | [] => 0
  | x :: r => uptoBulkEntry x + uptoBulkEntries r
def uptoBulkEntry {H : Type} : Lit × DataW H → Nat
  | (.string bytes, d) => bytes.length + uptoBulk d + 1
  | (_, d) => uptoBulk d + 1
 end
def uptoSmall : (H : Type) → List (DataW H) → Bool := fun _ ds => decide (uptoBulkAll ds ≤ 1048576)
def OpenSpec.upto (s : _root_.Go.ChangeSpec) : _root_.Go.OpenSpec := { _root_.Go.OpenSpec.ofChange s with cond := some uptoSmall }

/-- 'alumlaw25.SnapshotChecksAsSpecified', WHERE WHAT IT READS IS OF BULK AT MOST 1048576: true; the input reads as it did. -/
def snapshotChecksAsSpecifiedUptoRow : OpenClaim := { program := "ytlkmgeahdidjeaa", sum := "77b3d45cea2212d5b0b7317e857dc3fb57188363d29ce79d20372cb487854e90", func := "alum/alumlaw25.SnapshotChecksAsSpecified", spec := "snapshotChecksAsSpecified", unfollowed := true, recurses := true, plainKeys := false, apart := false, narrowed := true }
def SnapshotChecksAsSpecifiedUptoSaid : Prop := snapshotChecksAsSpecifiedUptoRow.holds Try.pinned (OpenSpec.upto snapshotChecksAsSpecifiedSpec)

/-- 'alumlaw25.SnapshotMatchesSpec', WHERE WHAT IT READS IS OF BULK AT MOST 1048576: true; the input reads as it did. -/
def snapshotMatchesSpecUptoRow : OpenClaim := { program := "ytlkmgeahdidjeaa", sum := "77b3d45cea2212d5b0b7317e857dc3fb57188363d29ce79d20372cb487854e90", func := "alum/alumlaw25.SnapshotMatchesSpec", spec := "snapshotMatchesSpec", unfollowed := true, recurses := true, plainKeys := false, apart := false, narrowed := true }
def SnapshotMatchesSpecUptoSaid : Prop := snapshotMatchesSpecUptoRow.holds Try.pinned (OpenSpec.upto snapshotMatchesSpecSpec)

/-- 'alumlaw25.SnapshotUnchanged', WHERE WHAT IT READS IS OF BULK AT MOST 1048576: true; the input reads as it did. -/
def snapshotUnchangedUptoRow : OpenClaim := { program := "ytlkmgeahdidjeaa", sum := "77b3d45cea2212d5b0b7317e857dc3fb57188363d29ce79d20372cb487854e90", func := "alum/alumlaw25.SnapshotUnchanged", spec := "snapshotUnchanged", unfollowed := true, recurses := true, plainKeys := false, apart := false, narrowed := true }
def SnapshotUnchangedUptoSaid : Prop := snapshotUnchangedUptoRow.holds Try.pinned (OpenSpec.upto snapshotUnchangedSpec)

/-- 'alumlaw25.SnapshotAddsAsSpecified', WHERE WHAT IT READS IS OF BULK AT MOST 1048576: true; the input reads as it did. -/
def snapshotAddsAsSpecifiedUptoRow : OpenClaim := { program := "ytlkmgeahdidjeaa", sum := "77b3d45cea2212d5b0b7317e857dc3fb57188363d29ce79d20372cb487854e90", func := "alum/alumlaw25.SnapshotAddsAsSpecified", spec := "snapshotAddsAsSpecified", unfollowed := true, recurses := true, plainKeys := false, apart := false, narrowed := true }
def SnapshotAddsAsSpecifiedUptoSaid : Prop := snapshotAddsAsSpecifiedUptoRow.holds Try.pinned (OpenSpec.upto snapshotAddsAsSpecifiedSpec)

/-- 'alumlaw25.SnapshotSeesThePast', WHERE WHAT IT READS IS OF BULK AT MOST 1048576: true; the input reads as it did. -/
def snapshotSeesThePastUptoRow : OpenClaim := { program := "ytlkmgeahdidjeaa", sum := "77b3d45cea2212d5b0b7317e857dc3fb57188363d29ce79d20372cb487854e90", func := "alum/alumlaw25.SnapshotSeesThePast", spec := "snapshotSeesThePast", unfollowed := true, recurses := true, plainKeys := false, apart := false, narrowed := true }
def SnapshotSeesThePastUptoSaid : Prop := snapshotSeesThePastUptoRow.holds Try.pinned (OpenSpec.upto snapshotSeesThePastSpec)

end Rows
end Go.Proofs.Ytlkmgeahdidjeaa

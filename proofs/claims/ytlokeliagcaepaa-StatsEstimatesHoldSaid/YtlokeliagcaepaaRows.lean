/-
  No cell of these rows narrows 'for every input' (looked for: loops, veiled, ifaces, maps, wideKeys, modest, calm, conditions, laid).
  DERIVED. THE GIVEN ROWS OF THIS SEAT. 6 by the template 'for every input the law returns true; each argument reads behind the call as it read before'; 0 by the template 'total and deterministic' (their statements: YtlokeliagcaepaaTotals.lean).
  GIVEN WITH THE SEED: the statements are not yours to turn. If you find one false, say at which input.
  Laid BY PROGRAM, IN A SANDBOX (cutbox-rows.mjs): the forced cells as the released guide's own fill.sh prints them over the translation 4980011e917f8156… (all of the seat's roots in one cut). By AI agents, Wed Nov 11 2026. No macro, syntax, notation, axiom, sorry.
-/
import Derived.Test.YtlokeliagcaepaaChecked
import GoSem.Claim
import GoSem.ClaimJoined
import GoSem.ClaimMapViews
import Derived.JoinedTies
import Derived.KernelRfl
namespace Go.Proofs.Ytlokeliagcaepaa
/- THE CELL 'sum', in the pinned program and in every row, IS THE sha256 OF THE DUMP (.gsa) THAT YtlokeliagcaepaaProg.lean LOADS. Nothing in Lean hashes anything: it is a label: what it is worth is what the hold of that sum in a sandbox is worth. -/
noncomputable def Try.pinned : Pinned := { name := "ytlokeliagcaepaa", sum := "4980011e917f8156b51a33e416cd7b7395c89806f7b47a127f3b4fc79829ce4e", checked := Try.checked }
namespace Rows
def none {H : Type} : Left H := { results := [], args := [] }

/-- 'alumlaw39.StatsCountsMatchSpec': WHATEVER THE INPUT: true; the input reads as it did. -/
def statsCountsMatchSpecSpec : ChangeSpec := { name := "statsCountsMatchSpec", fn := fun _ => fun
  | [d1, d2, d3, d4] => { results := [.lit (.bool true)], args := [d1, d2, d3, d4] }
  | _ => none }
def statsCountsMatchSpecRow : OpenClaim := { program := "ytlokeliagcaepaa", sum := "4980011e917f8156b51a33e416cd7b7395c89806f7b47a127f3b4fc79829ce4e", func := "alum/alumlaw39.StatsCountsMatchSpec", spec := "statsCountsMatchSpec", inPlace := ["internal/bytealg.abigen_runtime_cmpstring"], unfollowed := true, recurses := true, plainKeys := false, apart := false }
def StatsCountsMatchSpecSaid : Prop := statsCountsMatchSpecRow.holds Try.pinned (OpenSpec.ofChange statsCountsMatchSpecSpec)

/-- ITS FALSE NEIGHBOUR: 'it returns false'. Refute it at one input. -/
def statsCountsMatchSpecWrong : ChangeSpec := { name := "statsCountsMatchSpec", fn := fun _ => fun
  | [d1, d2, d3, d4] => { results := [.lit (.bool false)], args := [d1, d2, d3, d4] }
  | _ => none }
def StatsCountsMatchSpecWrongFalsely : Prop := statsCountsMatchSpecRow.holds Try.pinned (OpenSpec.ofChange statsCountsMatchSpecWrong)

/-- 'alumlaw39.StatsHistogramsMatchSpec': WHATEVER THE INPUT: true; the input reads as it did. -/
def statsHistogramsMatchSpecSpec : ChangeSpec := { name := "statsHistogramsMatchSpec", fn := fun _ => fun
  | [d1, d2, d3] => { results := [.lit (.bool true)], args := [d1, d2, d3] }
  | _ => none }
def statsHistogramsMatchSpecRow : OpenClaim := { program := "ytlokeliagcaepaa", sum := "4980011e917f8156b51a33e416cd7b7395c89806f7b47a127f3b4fc79829ce4e", func := "alum/alumlaw39.StatsHistogramsMatchSpec", spec := "statsHistogramsMatchSpec", inPlace := ["internal/bytealg.abigen_runtime_cmpstring"], unfollowed := true, recurses := true, plainKeys := false, apart := false }
def StatsHistogramsMatchSpecSaid : Prop := statsHistogramsMatchSpecRow.holds Try.pinned (OpenSpec.ofChange statsHistogramsMatchSpecSpec)

/-- ITS FALSE NEIGHBOUR: 'it returns false'. Refute it at one input. -/
def statsHistogramsMatchSpecWrong : ChangeSpec := { name := "statsHistogramsMatchSpec", fn := fun _ => fun
  | [d1, d2, d3] => { results := [.lit (.bool false)], args := [d1, d2, d3] }
  | _ => none }
def StatsHistogramsMatchSpecWrongFalsely : Prop := statsHistogramsMatchSpecRow.holds Try.pinned (OpenSpec.ofChange statsHistogramsMatchSpecWrong)

/-- 'alumlaw39.StatsHistogramDescribes': WHATEVER THE INPUT: true; the input reads as it did. -/
def statsHistogramDescribesSpec : ChangeSpec := { name := "statsHistogramDescribes", fn := fun _ => fun
  | [d1, d2, d3] => { results := [.lit (.bool true)], args := [d1, d2, d3] }
  | _ => none }
def statsHistogramDescribesRow : OpenClaim := { program := "ytlokeliagcaepaa", sum := "4980011e917f8156b51a33e416cd7b7395c89806f7b47a127f3b4fc79829ce4e", func := "alum/alumlaw39.StatsHistogramDescribes", spec := "statsHistogramDescribes", inPlace := ["internal/bytealg.abigen_runtime_cmpstring"], unfollowed := true, recurses := true, plainKeys := false, apart := false }
def StatsHistogramDescribesSaid : Prop := statsHistogramDescribesRow.holds Try.pinned (OpenSpec.ofChange statsHistogramDescribesSpec)

/-- ITS FALSE NEIGHBOUR: 'it returns false'. Refute it at one input. -/
def statsHistogramDescribesWrong : ChangeSpec := { name := "statsHistogramDescribes", fn := fun _ => fun
  | [d1, d2, d3] => { results := [.lit (.bool false)], args := [d1, d2, d3] }
  | _ => none }
def StatsHistogramDescribesWrongFalsely : Prop := statsHistogramDescribesRow.holds Try.pinned (OpenSpec.ofChange statsHistogramDescribesWrong)

/-- 'alumlaw39.StatsMergeDescribes': WHATEVER THE INPUT: true; the input reads as it did. -/
def statsMergeDescribesSpec : ChangeSpec := { name := "statsMergeDescribes", fn := fun _ => fun
  | [d1, d2, d3, d4, d5] => { results := [.lit (.bool true)], args := [d1, d2, d3, d4, d5] }
  | _ => none }
def statsMergeDescribesRow : OpenClaim := { program := "ytlokeliagcaepaa", sum := "4980011e917f8156b51a33e416cd7b7395c89806f7b47a127f3b4fc79829ce4e", func := "alum/alumlaw39.StatsMergeDescribes", spec := "statsMergeDescribes", inPlace := ["internal/bytealg.abigen_runtime_cmpstring"], unfollowed := true, recurses := true, plainKeys := false, apart := false }
def StatsMergeDescribesSaid : Prop := statsMergeDescribesRow.holds Try.pinned (OpenSpec.ofChange statsMergeDescribesSpec)

/-- ITS FALSE NEIGHBOUR: 'it returns false'. Refute it at one input. -/
def statsMergeDescribesWrong : ChangeSpec := { name := "statsMergeDescribes", fn := fun _ => fun
  | [d1, d2, d3, d4, d5] => { results := [.lit (.bool false)], args := [d1, d2, d3, d4, d5] }
  | _ => none }
def StatsMergeDescribesWrongFalsely : Prop := statsMergeDescribesRow.holds Try.pinned (OpenSpec.ofChange statsMergeDescribesWrong)

/-- 'alumlaw39.StatsEstimatesHold': WHATEVER THE INPUT: true; the input reads as it did. -/
def statsEstimatesHoldSpec : ChangeSpec := { name := "statsEstimatesHold", fn := fun _ => fun
  | [d1, d2, d3, d4, d5] => { results := [.lit (.bool true)], args := [d1, d2, d3, d4, d5] }
  | _ => none }
def statsEstimatesHoldRow : OpenClaim := { program := "ytlokeliagcaepaa", sum := "4980011e917f8156b51a33e416cd7b7395c89806f7b47a127f3b4fc79829ce4e", func := "alum/alumlaw39.StatsEstimatesHold", spec := "statsEstimatesHold", inPlace := ["internal/bytealg.abigen_runtime_cmpstring"], unfollowed := true, recurses := true, plainKeys := false, apart := false }
def StatsEstimatesHoldSaid : Prop := statsEstimatesHoldRow.holds Try.pinned (OpenSpec.ofChange statsEstimatesHoldSpec)

/-- ITS FALSE NEIGHBOUR: 'it returns false'. Refute it at one input. -/
def statsEstimatesHoldWrong : ChangeSpec := { name := "statsEstimatesHold", fn := fun _ => fun
  | [d1, d2, d3, d4, d5] => { results := [.lit (.bool false)], args := [d1, d2, d3, d4, d5] }
  | _ => none }
def StatsEstimatesHoldWrongFalsely : Prop := statsEstimatesHoldRow.holds Try.pinned (OpenSpec.ofChange statsEstimatesHoldWrong)

/-- 'alumlaw39.StatsJoinHolds': WHATEVER THE INPUT: true; the input reads as it did. -/
def statsJoinHoldsSpec : ChangeSpec := { name := "statsJoinHolds", fn := fun _ => fun
  | [d1, d2, d3, d4, d5, d6] => { results := [.lit (.bool true)], args := [d1, d2, d3, d4, d5, d6] }
  | _ => none }
def statsJoinHoldsRow : OpenClaim := { program := "ytlokeliagcaepaa", sum := "4980011e917f8156b51a33e416cd7b7395c89806f7b47a127f3b4fc79829ce4e", func := "alum/alumlaw39.StatsJoinHolds", spec := "statsJoinHolds", inPlace := ["internal/bytealg.abigen_runtime_cmpstring"], unfollowed := true, recurses := true, plainKeys := false, apart := false }
def StatsJoinHoldsSaid : Prop := statsJoinHoldsRow.holds Try.pinned (OpenSpec.ofChange statsJoinHoldsSpec)

/-- ITS FALSE NEIGHBOUR: 'it returns false'. Refute it at one input. -/
def statsJoinHoldsWrong : ChangeSpec := { name := "statsJoinHolds", fn := fun _ => fun
  | [d1, d2, d3, d4, d5, d6] => { results := [.lit (.bool false)], args := [d1, d2, d3, d4, d5, d6] }
  | _ => none }
def StatsJoinHoldsWrongFalsely : Prop := statsJoinHoldsRow.holds Try.pinned (OpenSpec.ofChange statsJoinHoldsWrong)

/- THE SECOND FORM. 'bulk': how many values and letters a reading holds, each counted each time it is reached (what is shared counts as often as it is met; a slice's spare places count too). A statement '..UptoSaid' is the law's where the arguments, and the package variables that the reading takes, are together of bulk at most 1048576: NARROWER than '..Said'. Prove '..Said' where nothing that the law and all that it calls make is longer than what came in: it says more and counts as full. Else prove '..UptoSaid'. A law counts once. -/
mutual
def uptoBulk {H : Type} : DataW H → Nat
  | .lit (.string bytes) => bytes.length + 1
  | .lit _ => 1
  | .nil => 1
  | .ptr d => uptoBulk d + 1
  | .slice elems spare => uptoBulkAll elems + uptoBulkAll spare + 1
  | .agg parts => uptoBulkAll parts + 1
  | .iface _ d => uptoBulk d + 1
  | .map entries => uptoBulkEntries entries + 1
  | .held _ => 1
def uptoBulkAll {H : Type} : List (DataW H) → Nat
  | [] => 0
  | d :: r => uptoBulk d + uptoBulkAll r
def uptoBulkEntries {H : Type} : List (Lit × DataW H) → Nat
  | [] => 0
  | x :: r => uptoBulkEntry x + uptoBulkEntries r
def uptoBulkEntry {H : Type} : Lit × DataW H → Nat
  | (.string bytes, d) => bytes.length + uptoBulk d + 1
  | (_, d) => uptoBulk d + 1
 end
def uptoSmall : (H : Type) → List (DataW H) → Bool := fun _ ds => decide (uptoBulkAll ds ≤ 1048576)
def OpenSpec.upto (s : _root_.Go.ChangeSpec) : _root_.Go.OpenSpec := { _root_.Go.OpenSpec.ofChange s with cond := some uptoSmall }

/-- 'alumlaw39.StatsCountsMatchSpec', WHERE WHAT IT READS IS OF BULK AT MOST 1048576: true; the input reads as it did. -/
def statsCountsMatchSpecUptoRow : OpenClaim := { program := "ytlokeliagcaepaa", sum := "4980011e917f8156b51a33e416cd7b7395c89806f7b47a127f3b4fc79829ce4e", func := "alum/alumlaw39.StatsCountsMatchSpec", spec := "statsCountsMatchSpec", inPlace := ["internal/bytealg.abigen_runtime_cmpstring"], unfollowed := true, recurses := true, plainKeys := false, apart := false, narrowed := true }
def StatsCountsMatchSpecUptoSaid : Prop := statsCountsMatchSpecUptoRow.holds Try.pinned (OpenSpec.upto statsCountsMatchSpecSpec)

/-- 'alumlaw39.StatsHistogramsMatchSpec', WHERE WHAT IT READS IS OF BULK AT MOST 1048576: true; the input reads as it did. -/
def statsHistogramsMatchSpecUptoRow : OpenClaim := { program := "ytlokeliagcaepaa", sum := "4980011e917f8156b51a33e416cd7b7395c89806f7b47a127f3b4fc79829ce4e", func := "alum/alumlaw39.StatsHistogramsMatchSpec", spec := "statsHistogramsMatchSpec", inPlace := ["internal/bytealg.abigen_runtime_cmpstring"], unfollowed := true, recurses := true, plainKeys := false, apart := false, narrowed := true }
def StatsHistogramsMatchSpecUptoSaid : Prop := statsHistogramsMatchSpecUptoRow.holds Try.pinned (OpenSpec.upto statsHistogramsMatchSpecSpec)

/-- 'alumlaw39.StatsHistogramDescribes', WHERE WHAT IT READS IS OF BULK AT MOST 1048576: true; the input reads as it did. -/
def statsHistogramDescribesUptoRow : OpenClaim := { program := "ytlokeliagcaepaa", sum := "4980011e917f8156b51a33e416cd7b7395c89806f7b47a127f3b4fc79829ce4e", func := "alum/alumlaw39.StatsHistogramDescribes", spec := "statsHistogramDescribes", inPlace := ["internal/bytealg.abigen_runtime_cmpstring"], unfollowed := true, recurses := true, plainKeys := false, apart := false, narrowed := true }
def StatsHistogramDescribesUptoSaid : Prop := statsHistogramDescribesUptoRow.holds Try.pinned (OpenSpec.upto statsHistogramDescribesSpec)

/-- 'alumlaw39.StatsMergeDescribes', WHERE WHAT IT READS IS OF BULK AT MOST 1048576: true; the input reads as it did. -/
def statsMergeDescribesUptoRow : OpenClaim := { program := "ytlokeliagcaepaa", sum := "4980011e917f8156b51a33e416cd7b7395c89806f7b47a127f3b4fc79829ce4e", func := "alum/alumlaw39.StatsMergeDescribes", spec := "statsMergeDescribes", inPlace := ["internal/bytealg.abigen_runtime_cmpstring"], unfollowed := true, recurses := true, plainKeys := false, apart := false, narrowed := true }
def StatsMergeDescribesUptoSaid : Prop := statsMergeDescribesUptoRow.holds Try.pinned (OpenSpec.upto statsMergeDescribesSpec)

/-- 'alumlaw39.StatsEstimatesHold', WHERE WHAT IT READS IS OF BULK AT MOST 1048576: true; the input reads as it did. -/
def statsEstimatesHoldUptoRow : OpenClaim := { program := "ytlokeliagcaepaa", sum := "4980011e917f8156b51a33e416cd7b7395c89806f7b47a127f3b4fc79829ce4e", func := "alum/alumlaw39.StatsEstimatesHold", spec := "statsEstimatesHold", inPlace := ["internal/bytealg.abigen_runtime_cmpstring"], unfollowed := true, recurses := true, plainKeys := false, apart := false, narrowed := true }
def StatsEstimatesHoldUptoSaid : Prop := statsEstimatesHoldUptoRow.holds Try.pinned (OpenSpec.upto statsEstimatesHoldSpec)

/-- 'alumlaw39.StatsJoinHolds', WHERE WHAT IT READS IS OF BULK AT MOST 1048576: true; the input reads as it did. -/
def statsJoinHoldsUptoRow : OpenClaim := { program := "ytlokeliagcaepaa", sum := "4980011e917f8156b51a33e416cd7b7395c89806f7b47a127f3b4fc79829ce4e", func := "alum/alumlaw39.StatsJoinHolds", spec := "statsJoinHolds", inPlace := ["internal/bytealg.abigen_runtime_cmpstring"], unfollowed := true, recurses := true, plainKeys := false, apart := false, narrowed := true }
def StatsJoinHoldsUptoSaid : Prop := statsJoinHoldsUptoRow.holds Try.pinned (OpenSpec.upto statsJoinHoldsSpec)

end Rows
end Go.Proofs.Ytlokeliagcaepaa

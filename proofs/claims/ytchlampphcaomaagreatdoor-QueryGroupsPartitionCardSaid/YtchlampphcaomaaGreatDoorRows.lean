/-
  NARROWER THAN 'FOR EVERY INPUT', by the rows' own cells (each row's printed sentence says how): QueryFiltersSplit: loops, laid · QueryFiltersMove: loops, laid · QueryChecksAsSpecified: loops, laid · QueryComparesBags: laid · QueryJoinsTurn: loops, laid · QueryGroupsPartition: loops, laid.
  DERIVED. THE GIVEN ROWS OF THIS SEAT. 6 by the template 'for every input the law returns true; each argument reads behind the call as it read before'; 0 by the template 'total and deterministic' (their statements: YtchlampphcaomaaGreatDoorTotals.lean).
  GIVEN WITH THE SEED: the statements are not yours to turn. If you find one false, say at which input.
  Laid BY PROGRAM, IN A SANDBOX (cutbox-rows.mjs): the forced cells as the released guide's own fill.sh prints them over the translation f5e099673206d8e9… (all of the seat's roots in one cut). By AI agents, Wed Nov 11 2026. No macro, syntax, notation, axiom, sorry.
-/
import Derived.Test.YtchlampphcaomaaGreatDoorChecked
import GoSem.Claim
import GoSem.ClaimJoined
import GoSem.ClaimMapViews
import Derived.JoinedTies
import Derived.KernelRfl
namespace Go.Proofs.YtchlampphcaomaaGreatDoor
/- THE CELL 'sum', in the pinned program and in every row, IS THE sha256 OF THE DUMP (.gsa) THAT YtchlampphcaomaaGreatDoorProg.lean LOADS. Nothing in Lean hashes anything: it is a label: what it is worth is what the hold of that sum in a sandbox is worth. -/
noncomputable def Tryz.pinned : Pinned := { name := "ytchlampphcaomaagreatdoor", sum := "f5e099673206d8e91e7d954c17856b9d2f07c417c6bd780b8753da32208e3ccb", checked := Tryz.checked }
namespace Rows
def none {H : Type} : Left H := { results := [], args := [] }

/- WHAT THE LISTED PACKAGE-LEVEL VARIABLES READ AS WHEN THE CALL BEGINS. Each datum BY PROGRAM (the guide's laid-datum.mjs) off the statement by which the dump's own 'gosem.cut.vars' lays the variable. In a bare row this is a premise. The card (YtchlampphcaomaaGreatDoorCards.lean) ties it to the program's text. -/
def laid_alum_expr_operators {H : Type} : DataW H := .iface "func table" (.map [(.int .i64 3, .iface "func" (.lit (.string [40, 97, 108, 117, 109, 47, 101, 120, 112, 114, 46, 112, 97, 105, 114, 41, 46, 97, 100, 100]))), (.int .i64 4, .iface "func" (.lit (.string [40, 97, 108, 117, 109, 47, 101, 120, 112, 114, 46, 112, 97, 105, 114, 41, 46, 115, 117, 98]))), (.int .i64 5, .iface "func" (.lit (.string [40, 97, 108, 117, 109, 47, 101, 120, 112, 114, 46, 112, 97, 105, 114, 41, 46, 109, 117, 108])))])

/-- 'alumlaw37.QueryFiltersSplit': WHATEVER THE INPUT: true; the input reads as it did. -/
def queryFiltersSplitSpec : ChangeSpec := { name := "queryFiltersSplit", fn := fun _ => fun
  | [d1, d2, d3, d4] => { results := [.lit (.bool true)], args := [d1, d2, d3, d4] }
  | _ => none }
def queryFiltersSplitRow : OpenClaim := { program := "ytchlampphcaomaagreatdoor", sum := "f5e099673206d8e91e7d954c17856b9d2f07c417c6bd780b8753da32208e3ccb", func := "alum/alumlaw37.QueryFiltersSplit", spec := "queryFiltersSplit", inPlace := ["internal/bytealg.abigen_runtime_cmpstring"], unfollowed := true, recurses := true, named := ["alum/expr.operators"], loops := true, apart := false, laid := [("alum/expr.operators", laid_alum_expr_operators)] }
def QueryFiltersSplitSaid : Prop := queryFiltersSplitRow.holds Tryz.pinned (OpenSpec.ofChange queryFiltersSplitSpec)

/-- ITS FALSE NEIGHBOUR: 'it returns false'. Refute it at one input. -/
def queryFiltersSplitWrong : ChangeSpec := { name := "queryFiltersSplit", fn := fun _ => fun
  | [d1, d2, d3, d4] => { results := [.lit (.bool false)], args := [d1, d2, d3, d4] }
  | _ => none }
def QueryFiltersSplitWrongFalsely : Prop := queryFiltersSplitRow.holds Tryz.pinned (OpenSpec.ofChange queryFiltersSplitWrong)

/-- 'alumlaw37.QueryFiltersMove': WHATEVER THE INPUT: true; the input reads as it did. -/
def queryFiltersMoveSpec : ChangeSpec := { name := "queryFiltersMove", fn := fun _ => fun
  | [d1, d2, d3, d4, d5, d6] => { results := [.lit (.bool true)], args := [d1, d2, d3, d4, d5, d6] }
  | _ => none }
def queryFiltersMoveRow : OpenClaim := { program := "ytchlampphcaomaagreatdoor", sum := "f5e099673206d8e91e7d954c17856b9d2f07c417c6bd780b8753da32208e3ccb", func := "alum/alumlaw37.QueryFiltersMove", spec := "queryFiltersMove", inPlace := ["internal/bytealg.abigen_runtime_cmpstring"], unfollowed := true, recurses := true, named := ["alum/expr.operators"], loops := true, apart := false, laid := [("alum/expr.operators", laid_alum_expr_operators)] }
def QueryFiltersMoveSaid : Prop := queryFiltersMoveRow.holds Tryz.pinned (OpenSpec.ofChange queryFiltersMoveSpec)

/-- ITS FALSE NEIGHBOUR: 'it returns false'. Refute it at one input. -/
def queryFiltersMoveWrong : ChangeSpec := { name := "queryFiltersMove", fn := fun _ => fun
  | [d1, d2, d3, d4, d5, d6] => { results := [.lit (.bool false)], args := [d1, d2, d3, d4, d5, d6] }
  | _ => none }
def QueryFiltersMoveWrongFalsely : Prop := queryFiltersMoveRow.holds Tryz.pinned (OpenSpec.ofChange queryFiltersMoveWrong)

/-- 'alumlaw37.QueryChecksAsSpecified': WHATEVER THE INPUT: true; the input reads as it did. -/
def queryChecksAsSpecifiedSpec : ChangeSpec := { name := "queryChecksAsSpecified", fn := fun _ => fun
  | [d1, d2, d3] => { results := [.lit (.bool true)], args := [d1, d2, d3] }
  | _ => none }
def queryChecksAsSpecifiedRow : OpenClaim := { program := "ytchlampphcaomaagreatdoor", sum := "f5e099673206d8e91e7d954c17856b9d2f07c417c6bd780b8753da32208e3ccb", func := "alum/alumlaw37.QueryChecksAsSpecified", spec := "queryChecksAsSpecified", inPlace := ["internal/bytealg.abigen_runtime_cmpstring"], unfollowed := true, recurses := true, named := ["alum/expr.operators"], loops := true, apart := false, laid := [("alum/expr.operators", laid_alum_expr_operators)] }
def QueryChecksAsSpecifiedSaid : Prop := queryChecksAsSpecifiedRow.holds Tryz.pinned (OpenSpec.ofChange queryChecksAsSpecifiedSpec)

/-- ITS FALSE NEIGHBOUR: 'it returns false'. Refute it at one input. -/
def queryChecksAsSpecifiedWrong : ChangeSpec := { name := "queryChecksAsSpecified", fn := fun _ => fun
  | [d1, d2, d3] => { results := [.lit (.bool false)], args := [d1, d2, d3] }
  | _ => none }
def QueryChecksAsSpecifiedWrongFalsely : Prop := queryChecksAsSpecifiedRow.holds Tryz.pinned (OpenSpec.ofChange queryChecksAsSpecifiedWrong)

/-- 'alumlaw37.QueryComparesBags': WHATEVER THE INPUT: true; the input reads as it did. -/
def queryComparesBagsSpec : ChangeSpec := { name := "queryComparesBags", fn := fun _ => fun
  | [d1, d2] => { results := [.lit (.bool true)], args := [d1, d2] }
  | _ => none }
def queryComparesBagsRow : OpenClaim := { program := "ytchlampphcaomaagreatdoor", sum := "f5e099673206d8e91e7d954c17856b9d2f07c417c6bd780b8753da32208e3ccb", func := "alum/alumlaw37.QueryComparesBags", spec := "queryComparesBags", inPlace := ["internal/bytealg.abigen_runtime_cmpstring"], unfollowed := true, recurses := true, named := ["alum/expr.operators"], apart := false, laid := [("alum/expr.operators", laid_alum_expr_operators)] }
def QueryComparesBagsSaid : Prop := queryComparesBagsRow.holds Tryz.pinned (OpenSpec.ofChange queryComparesBagsSpec)

/-- ITS FALSE NEIGHBOUR: 'it returns false'. Refute it at one input. -/
def queryComparesBagsWrong : ChangeSpec := { name := "queryComparesBags", fn := fun _ => fun
  | [d1, d2] => { results := [.lit (.bool false)], args := [d1, d2] }
  | _ => none }
def QueryComparesBagsWrongFalsely : Prop := queryComparesBagsRow.holds Tryz.pinned (OpenSpec.ofChange queryComparesBagsWrong)

/-- 'alumlaw37.QueryJoinsTurn': WHATEVER THE INPUT: true; the input reads as it did. -/
def queryJoinsTurnSpec : ChangeSpec := { name := "queryJoinsTurn", fn := fun _ => fun
  | [d1, d2, d3, d4, d5] => { results := [.lit (.bool true)], args := [d1, d2, d3, d4, d5] }
  | _ => none }
def queryJoinsTurnRow : OpenClaim := { program := "ytchlampphcaomaagreatdoor", sum := "f5e099673206d8e91e7d954c17856b9d2f07c417c6bd780b8753da32208e3ccb", func := "alum/alumlaw37.QueryJoinsTurn", spec := "queryJoinsTurn", inPlace := ["internal/bytealg.abigen_runtime_cmpstring"], unfollowed := true, recurses := true, named := ["alum/expr.operators"], loops := true, apart := false, laid := [("alum/expr.operators", laid_alum_expr_operators)] }
def QueryJoinsTurnSaid : Prop := queryJoinsTurnRow.holds Tryz.pinned (OpenSpec.ofChange queryJoinsTurnSpec)

/-- ITS FALSE NEIGHBOUR: 'it returns false'. Refute it at one input. -/
def queryJoinsTurnWrong : ChangeSpec := { name := "queryJoinsTurn", fn := fun _ => fun
  | [d1, d2, d3, d4, d5] => { results := [.lit (.bool false)], args := [d1, d2, d3, d4, d5] }
  | _ => none }
def QueryJoinsTurnWrongFalsely : Prop := queryJoinsTurnRow.holds Tryz.pinned (OpenSpec.ofChange queryJoinsTurnWrong)

/-- 'alumlaw37.QueryGroupsPartition': WHATEVER THE INPUT: true; the input reads as it did. -/
def queryGroupsPartitionSpec : ChangeSpec := { name := "queryGroupsPartition", fn := fun _ => fun
  | [d1, d2, d3, d4, d5] => { results := [.lit (.bool true)], args := [d1, d2, d3, d4, d5] }
  | _ => none }
def queryGroupsPartitionRow : OpenClaim := { program := "ytchlampphcaomaagreatdoor", sum := "f5e099673206d8e91e7d954c17856b9d2f07c417c6bd780b8753da32208e3ccb", func := "alum/alumlaw37.QueryGroupsPartition", spec := "queryGroupsPartition", inPlace := ["internal/bytealg.abigen_runtime_cmpstring"], unfollowed := true, recurses := true, named := ["alum/expr.operators"], loops := true, apart := false, laid := [("alum/expr.operators", laid_alum_expr_operators)] }
def QueryGroupsPartitionSaid : Prop := queryGroupsPartitionRow.holds Tryz.pinned (OpenSpec.ofChange queryGroupsPartitionSpec)

/-- ITS FALSE NEIGHBOUR: 'it returns false'. Refute it at one input. -/
def queryGroupsPartitionWrong : ChangeSpec := { name := "queryGroupsPartition", fn := fun _ => fun
  | [d1, d2, d3, d4, d5] => { results := [.lit (.bool false)], args := [d1, d2, d3, d4, d5] }
  | _ => none }
def QueryGroupsPartitionWrongFalsely : Prop := queryGroupsPartitionRow.holds Tryz.pinned (OpenSpec.ofChange queryGroupsPartitionWrong)

/- THE SECOND FORM. 'bulk': how many values and letters a reading holds, each counted each time it is reached (what is shared counts as often as it is met; a slice's spare places count too). A statement '..UptoSaid' is the law's where the arguments, and the package variables that the reading takes, are together of bulk at most 1048576: NARROWER than '..Said'. Prove '..Said' where nothing that the law and all that it calls make is longer than what came in: it says more and counts as full. Else prove '..UptoSaid'. A law counts once. -/
mutual
def uptoBulk {H : Type} : DataW H → Nat
  | .lit (.string bytes) => bytes.length + 1
  | .lit _ => 1
  | .nil => 1
  | .ptr d => uptoBulk d + 1
  | .slice elems spare => uptoBulkAll elems + uptoBulkAll spare + 1
  | .agg parts => uptoBulkAll parts + 1
  | .iface _ d => uptoBulk d + 1
  | .map entries => uptoBulkEntries entries + 1
  | .held _ => 1
def uptoBulkAll {H : Type} : List (DataW H) → Nat
  | [] => 0
  | d :: r => uptoBulk d + uptoBulkAll r
def uptoBulkEntries {H : Type} : List (Lit × DataW H) → Nat
  | [] => 0
  | x :: r => uptoBulkEntry x + uptoBulkEntries r
def uptoBulkEntry {H : Type} : Lit × DataW H → Nat
  | (.string bytes, d) => bytes.length + uptoBulk d + 1
  | (_, d) => uptoBulk d + 1
 end
def uptoSmall : (H : Type) → List (DataW H) → Bool := fun _ ds => decide (uptoBulkAll ds ≤ 1048576)
def OpenSpec.upto (s : _root_.Go.ChangeSpec) : _root_.Go.OpenSpec := { _root_.Go.OpenSpec.ofChange s with cond := some uptoSmall }

/-- 'alumlaw37.QueryFiltersSplit', WHERE WHAT IT READS IS OF BULK AT MOST 1048576: true; the input reads as it did. -/
def queryFiltersSplitUptoRow : OpenClaim := { program := "ytchlampphcaomaagreatdoor", sum := "f5e099673206d8e91e7d954c17856b9d2f07c417c6bd780b8753da32208e3ccb", func := "alum/alumlaw37.QueryFiltersSplit", spec := "queryFiltersSplit", inPlace := ["internal/bytealg.abigen_runtime_cmpstring"], unfollowed := true, recurses := true, named := ["alum/expr.operators"], loops := true, apart := false, laid := [("alum/expr.operators", laid_alum_expr_operators)], narrowed := true }
def QueryFiltersSplitUptoSaid : Prop := queryFiltersSplitUptoRow.holds Tryz.pinned (OpenSpec.upto queryFiltersSplitSpec)

/-- 'alumlaw37.QueryFiltersMove', WHERE WHAT IT READS IS OF BULK AT MOST 1048576: true; the input reads as it did. -/
def queryFiltersMoveUptoRow : OpenClaim := { program := "ytchlampphcaomaagreatdoor", sum := "f5e099673206d8e91e7d954c17856b9d2f07c417c6bd780b8753da32208e3ccb", func := "alum/alumlaw37.QueryFiltersMove", spec := "queryFiltersMove", inPlace := ["internal/bytealg.abigen_runtime_cmpstring"], unfollowed := true, recurses := true, named := ["alum/expr.operators"], loops := true, apart := false, laid := [("alum/expr.operators", laid_alum_expr_operators)], narrowed := true }
def QueryFiltersMoveUptoSaid : Prop := queryFiltersMoveUptoRow.holds Tryz.pinned (OpenSpec.upto queryFiltersMoveSpec)

/-- 'alumlaw37.QueryChecksAsSpecified', WHERE WHAT IT READS IS OF BULK AT MOST 1048576: true; the input reads as it did. -/
def queryChecksAsSpecifiedUptoRow : OpenClaim := { program := "ytchlampphcaomaagreatdoor", sum := "f5e099673206d8e91e7d954c17856b9d2f07c417c6bd780b8753da32208e3ccb", func := "alum/alumlaw37.QueryChecksAsSpecified", spec := "queryChecksAsSpecified", inPlace := ["internal/bytealg.abigen_runtime_cmpstring"], unfollowed := true, recurses := true, named := ["alum/expr.operators"], loops := true, apart := false, laid := [("alum/expr.operators", laid_alum_expr_operators)], narrowed := true }
def QueryChecksAsSpecifiedUptoSaid : Prop := queryChecksAsSpecifiedUptoRow.holds Tryz.pinned (OpenSpec.upto queryChecksAsSpecifiedSpec)

/-- 'alumlaw37.QueryComparesBags', WHERE WHAT IT READS IS OF BULK AT MOST 1048576: true; the input reads as it did. -/
def queryComparesBagsUptoRow : OpenClaim := { program := "ytchlampphcaomaagreatdoor", sum := "f5e099673206d8e91e7d954c17856b9d2f07c417c6bd780b8753da32208e3ccb", func := "alum/alumlaw37.QueryComparesBags", spec := "queryComparesBags", inPlace := ["internal/bytealg.abigen_runtime_cmpstring"], unfollowed := true, recurses := true, named := ["alum/expr.operators"], apart := false, laid := [("alum/expr.operators", laid_alum_expr_operators)], narrowed := true }
def QueryComparesBagsUptoSaid : Prop := queryComparesBagsUptoRow.holds Tryz.pinned (OpenSpec.upto queryComparesBagsSpec)

/-- 'alumlaw37.QueryJoinsTurn', WHERE WHAT IT READS IS OF BULK AT MOST 1048576: true; the input reads as it did. -/
def queryJoinsTurnUptoRow : OpenClaim := { program := "ytchlampphcaomaagreatdoor", sum := "f5e099673206d8e91e7d954c17856b9d2f07c417c6bd780b8753da32208e3ccb", func := "alum/alumlaw37.QueryJoinsTurn", spec := "queryJoinsTurn", inPlace := ["internal/bytealg.abigen_runtime_cmpstring"], unfollowed := true, recurses := true, named := ["alum/expr.operators"], loops := true, apart := false, laid := [("alum/expr.operators", laid_alum_expr_operators)], narrowed := true }
def QueryJoinsTurnUptoSaid : Prop := queryJoinsTurnUptoRow.holds Tryz.pinned (OpenSpec.upto queryJoinsTurnSpec)

/-- 'alumlaw37.QueryGroupsPartition', WHERE WHAT IT READS IS OF BULK AT MOST 1048576: true; the input reads as it did. -/
def queryGroupsPartitionUptoRow : OpenClaim := { program := "ytchlampphcaomaagreatdoor", sum := "f5e099673206d8e91e7d954c17856b9d2f07c417c6bd780b8753da32208e3ccb", func := "alum/alumlaw37.QueryGroupsPartition", spec := "queryGroupsPartition", inPlace := ["internal/bytealg.abigen_runtime_cmpstring"], unfollowed := true, recurses := true, named := ["alum/expr.operators"], loops := true, apart := false, laid := [("alum/expr.operators", laid_alum_expr_operators)], narrowed := true }
def QueryGroupsPartitionUptoSaid : Prop := queryGroupsPartitionUptoRow.holds Tryz.pinned (OpenSpec.upto queryGroupsPartitionSpec)

end Rows
end Go.Proofs.YtchlampphcaomaaGreatDoor

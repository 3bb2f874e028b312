/-
  NARROWER THAN 'FOR EVERY INPUT', by the rows' own cells (each row's printed sentence says how): ExprEvaluatesAsSpecified: loops, laid · ExprKeepsKinds: loops, laid · ExprMeetIsBoth: laid · ExprBoundsHold: loops, laid · ExprSimplifyMatchesSpec: loops, laid · ExprSimplifyKeepsMeaning: loops, laid · ExprSubstitutes: loops, laid · ExprChecksAsSpecified: loops, laid.
  DERIVED. THE GIVEN ROWS OF THIS SEAT. 8 by the template 'for every input the law returns true; each argument reads behind the call as it read before'; 0 by the template 'total and deterministic' (their statements: YtjiijjfpmaligaaDoorTotals.lean).
  GIVEN WITH THE SEED: the statements are not yours to turn. If you find one false, say at which input.
  Laid BY PROGRAM, IN A SANDBOX (cutbox-rows.mjs): the forced cells as the released guide's own fill.sh prints them over the translation 7e65f571d0e8bb75… (all of the seat's roots in one cut). By AI agents, Wed Nov 11 2026. No macro, syntax, notation, axiom, sorry.
-/
import Derived.Test.YtjiijjfpmaligaaDoorChecked
import GoSem.Claim
import GoSem.ClaimJoined
import GoSem.ClaimMapViews
import Derived.JoinedTies
import Derived.KernelRfl
namespace Go.Proofs.YtjiijjfpmaligaaDoor
/- THE CELL 'sum', in the pinned program and in every row, IS THE sha256 OF THE DUMP (.gsa) THAT YtjiijjfpmaligaaDoorProg.lean LOADS. Nothing in Lean hashes anything: it is a label: what it is worth is what the hold of that sum in a sandbox is worth. -/
noncomputable def Tryd.pinned : Pinned := { name := "ytjiijjfpmaligaadoor", sum := "7e65f571d0e8bb754815e0fae94e4c5cfab763e560e1ca79abca4f69cb2db026", checked := Tryd.checked }
namespace Rows
def none {H : Type} : Left H := { results := [], args := [] }

/- WHAT THE LISTED PACKAGE-LEVEL VARIABLES READ AS WHEN THE CALL BEGINS. Each datum BY PROGRAM (the guide's laid-datum.mjs) off the statement by which the dump's own 'gosem.cut.vars' lays the variable. In a bare row this is a premise. The card (YtjiijjfpmaligaaDoorCards.lean) ties it to the program's text. -/
def laid_alum_expr_operators {H : Type} : DataW H := .iface "func table" (.map [(.int .i64 3, .iface "func" (.lit (.string [40, 97, 108, 117, 109, 47, 101, 120, 112, 114, 46, 112, 97, 105, 114, 41, 46, 97, 100, 100]))), (.int .i64 4, .iface "func" (.lit (.string [40, 97, 108, 117, 109, 47, 101, 120, 112, 114, 46, 112, 97, 105, 114, 41, 46, 115, 117, 98]))), (.int .i64 5, .iface "func" (.lit (.string [40, 97, 108, 117, 109, 47, 101, 120, 112, 114, 46, 112, 97, 105, 114, 41, 46, 109, 117, 108])))])

/-- 'alumlaw36.ExprEvaluatesAsSpecified': WHATEVER THE INPUT: true; the input reads as it did. -/
def exprEvaluatesAsSpecifiedSpec : ChangeSpec := { name := "exprEvaluatesAsSpecified", fn := fun _ => fun
  | [d1, d2, d3] => { results := [.lit (.bool true)], args := [d1, d2, d3] }
  | _ => none }
def exprEvaluatesAsSpecifiedRow : OpenClaim := { program := "ytjiijjfpmaligaadoor", sum := "7e65f571d0e8bb754815e0fae94e4c5cfab763e560e1ca79abca4f69cb2db026", func := "alum/alumlaw36.ExprEvaluatesAsSpecified", spec := "exprEvaluatesAsSpecified", inPlace := ["internal/bytealg.abigen_runtime_cmpstring"], unfollowed := true, recurses := true, named := ["alum/expr.operators"], loops := true, apart := false, laid := [("alum/expr.operators", laid_alum_expr_operators)] }
def ExprEvaluatesAsSpecifiedSaid : Prop := exprEvaluatesAsSpecifiedRow.holds Tryd.pinned (OpenSpec.ofChange exprEvaluatesAsSpecifiedSpec)

/-- ITS FALSE NEIGHBOUR: 'it returns false'. Refute it at one input. -/
def exprEvaluatesAsSpecifiedWrong : ChangeSpec := { name := "exprEvaluatesAsSpecified", fn := fun _ => fun
  | [d1, d2, d3] => { results := [.lit (.bool false)], args := [d1, d2, d3] }
  | _ => none }
def ExprEvaluatesAsSpecifiedWrongFalsely : Prop := exprEvaluatesAsSpecifiedRow.holds Tryd.pinned (OpenSpec.ofChange exprEvaluatesAsSpecifiedWrong)

/-- 'alumlaw36.ExprKeepsKinds': WHATEVER THE INPUT: true; the input reads as it did. -/
def exprKeepsKindsSpec : ChangeSpec := { name := "exprKeepsKinds", fn := fun _ => fun
  | [d1, d2, d3] => { results := [.lit (.bool true)], args := [d1, d2, d3] }
  | _ => none }
def exprKeepsKindsRow : OpenClaim := { program := "ytjiijjfpmaligaadoor", sum := "7e65f571d0e8bb754815e0fae94e4c5cfab763e560e1ca79abca4f69cb2db026", func := "alum/alumlaw36.ExprKeepsKinds", spec := "exprKeepsKinds", inPlace := ["internal/bytealg.abigen_runtime_cmpstring"], unfollowed := true, recurses := true, named := ["alum/expr.operators"], loops := true, apart := false, laid := [("alum/expr.operators", laid_alum_expr_operators)] }
def ExprKeepsKindsSaid : Prop := exprKeepsKindsRow.holds Tryd.pinned (OpenSpec.ofChange exprKeepsKindsSpec)

/-- ITS FALSE NEIGHBOUR: 'it returns false'. Refute it at one input. -/
def exprKeepsKindsWrong : ChangeSpec := { name := "exprKeepsKinds", fn := fun _ => fun
  | [d1, d2, d3] => { results := [.lit (.bool false)], args := [d1, d2, d3] }
  | _ => none }
def ExprKeepsKindsWrongFalsely : Prop := exprKeepsKindsRow.holds Tryd.pinned (OpenSpec.ofChange exprKeepsKindsWrong)

/-- 'alumlaw36.ExprMeetIsBoth': WHATEVER THE INPUT: true; the input reads as it did. -/
def exprMeetIsBothSpec : ChangeSpec := { name := "exprMeetIsBoth", fn := fun _ => fun
  | [d1, d2, d3, d4] => { results := [.lit (.bool true)], args := [d1, d2, d3, d4] }
  | _ => none }
def exprMeetIsBothRow : OpenClaim := { program := "ytjiijjfpmaligaadoor", sum := "7e65f571d0e8bb754815e0fae94e4c5cfab763e560e1ca79abca4f69cb2db026", func := "alum/alumlaw36.ExprMeetIsBoth", spec := "exprMeetIsBoth", inPlace := ["internal/bytealg.abigen_runtime_cmpstring"], unfollowed := true, recurses := true, named := ["alum/expr.operators"], apart := false, laid := [("alum/expr.operators", laid_alum_expr_operators)] }
def ExprMeetIsBothSaid : Prop := exprMeetIsBothRow.holds Tryd.pinned (OpenSpec.ofChange exprMeetIsBothSpec)

/-- ITS FALSE NEIGHBOUR: 'it returns false'. Refute it at one input. -/
def exprMeetIsBothWrong : ChangeSpec := { name := "exprMeetIsBoth", fn := fun _ => fun
  | [d1, d2, d3, d4] => { results := [.lit (.bool false)], args := [d1, d2, d3, d4] }
  | _ => none }
def ExprMeetIsBothWrongFalsely : Prop := exprMeetIsBothRow.holds Tryd.pinned (OpenSpec.ofChange exprMeetIsBothWrong)

/-- 'alumlaw36.ExprBoundsHold': WHATEVER THE INPUT: true; the input reads as it did. -/
def exprBoundsHoldSpec : ChangeSpec := { name := "exprBoundsHold", fn := fun _ => fun
  | [d1, d2, d3, d4] => { results := [.lit (.bool true)], args := [d1, d2, d3, d4] }
  | _ => none }
def exprBoundsHoldRow : OpenClaim := { program := "ytjiijjfpmaligaadoor", sum := "7e65f571d0e8bb754815e0fae94e4c5cfab763e560e1ca79abca4f69cb2db026", func := "alum/alumlaw36.ExprBoundsHold", spec := "exprBoundsHold", inPlace := ["internal/bytealg.abigen_runtime_cmpstring"], unfollowed := true, recurses := true, named := ["alum/expr.operators"], loops := true, apart := false, laid := [("alum/expr.operators", laid_alum_expr_operators)] }
def ExprBoundsHoldSaid : Prop := exprBoundsHoldRow.holds Tryd.pinned (OpenSpec.ofChange exprBoundsHoldSpec)

/-- ITS FALSE NEIGHBOUR: 'it returns false'. Refute it at one input. -/
def exprBoundsHoldWrong : ChangeSpec := { name := "exprBoundsHold", fn := fun _ => fun
  | [d1, d2, d3, d4] => { results := [.lit (.bool false)], args := [d1, d2, d3, d4] }
  | _ => none }
def ExprBoundsHoldWrongFalsely : Prop := exprBoundsHoldRow.holds Tryd.pinned (OpenSpec.ofChange exprBoundsHoldWrong)

/-- 'alumlaw36.ExprSimplifyMatchesSpec': WHATEVER THE INPUT: true; the input reads as it did. -/
def exprSimplifyMatchesSpecSpec : ChangeSpec := { name := "exprSimplifyMatchesSpec", fn := fun _ => fun
  | [d1, d2] => { results := [.lit (.bool true)], args := [d1, d2] }
  | _ => none }
def exprSimplifyMatchesSpecRow : OpenClaim := { program := "ytjiijjfpmaligaadoor", sum := "7e65f571d0e8bb754815e0fae94e4c5cfab763e560e1ca79abca4f69cb2db026", func := "alum/alumlaw36.ExprSimplifyMatchesSpec", spec := "exprSimplifyMatchesSpec", inPlace := ["internal/bytealg.abigen_runtime_cmpstring"], unfollowed := true, recurses := true, named := ["alum/expr.operators"], loops := true, apart := false, laid := [("alum/expr.operators", laid_alum_expr_operators)] }
def ExprSimplifyMatchesSpecSaid : Prop := exprSimplifyMatchesSpecRow.holds Tryd.pinned (OpenSpec.ofChange exprSimplifyMatchesSpecSpec)

/-- ITS FALSE NEIGHBOUR: 'it returns false'. Refute it at one input. -/
def exprSimplifyMatchesSpecWrong : ChangeSpec := { name := "exprSimplifyMatchesSpec", fn := fun _ => fun
  | [d1, d2] => { results := [.lit (.bool false)], args := [d1, d2] }
  | _ => none }
def ExprSimplifyMatchesSpecWrongFalsely : Prop := exprSimplifyMatchesSpecRow.holds Tryd.pinned (OpenSpec.ofChange exprSimplifyMatchesSpecWrong)

/-- 'alumlaw36.ExprSimplifyKeepsMeaning': WHATEVER THE INPUT: true; the input reads as it did. -/
def exprSimplifyKeepsMeaningSpec : ChangeSpec := { name := "exprSimplifyKeepsMeaning", fn := fun _ => fun
  | [d1, d2, d3] => { results := [.lit (.bool true)], args := [d1, d2, d3] }
  | _ => none }
def exprSimplifyKeepsMeaningRow : OpenClaim := { program := "ytjiijjfpmaligaadoor", sum := "7e65f571d0e8bb754815e0fae94e4c5cfab763e560e1ca79abca4f69cb2db026", func := "alum/alumlaw36.ExprSimplifyKeepsMeaning", spec := "exprSimplifyKeepsMeaning", inPlace := ["internal/bytealg.abigen_runtime_cmpstring"], unfollowed := true, recurses := true, named := ["alum/expr.operators"], loops := true, apart := false, laid := [("alum/expr.operators", laid_alum_expr_operators)] }
def ExprSimplifyKeepsMeaningSaid : Prop := exprSimplifyKeepsMeaningRow.holds Tryd.pinned (OpenSpec.ofChange exprSimplifyKeepsMeaningSpec)

/-- ITS FALSE NEIGHBOUR: 'it returns false'. Refute it at one input. -/
def exprSimplifyKeepsMeaningWrong : ChangeSpec := { name := "exprSimplifyKeepsMeaning", fn := fun _ => fun
  | [d1, d2, d3] => { results := [.lit (.bool false)], args := [d1, d2, d3] }
  | _ => none }
def ExprSimplifyKeepsMeaningWrongFalsely : Prop := exprSimplifyKeepsMeaningRow.holds Tryd.pinned (OpenSpec.ofChange exprSimplifyKeepsMeaningWrong)

/-- 'alumlaw36.ExprSubstitutes': WHATEVER THE INPUT: true; the input reads as it did. -/
def exprSubstitutesSpec : ChangeSpec := { name := "exprSubstitutes", fn := fun _ => fun
  | [d1, d2, d3, d4, d5] => { results := [.lit (.bool true)], args := [d1, d2, d3, d4, d5] }
  | _ => none }
def exprSubstitutesRow : OpenClaim := { program := "ytjiijjfpmaligaadoor", sum := "7e65f571d0e8bb754815e0fae94e4c5cfab763e560e1ca79abca4f69cb2db026", func := "alum/alumlaw36.ExprSubstitutes", spec := "exprSubstitutes", inPlace := ["internal/bytealg.abigen_runtime_cmpstring"], unfollowed := true, recurses := true, named := ["alum/expr.operators"], loops := true, apart := false, laid := [("alum/expr.operators", laid_alum_expr_operators)] }
def ExprSubstitutesSaid : Prop := exprSubstitutesRow.holds Tryd.pinned (OpenSpec.ofChange exprSubstitutesSpec)

/-- ITS FALSE NEIGHBOUR: 'it returns false'. Refute it at one input. -/
def exprSubstitutesWrong : ChangeSpec := { name := "exprSubstitutes", fn := fun _ => fun
  | [d1, d2, d3, d4, d5] => { results := [.lit (.bool false)], args := [d1, d2, d3, d4, d5] }
  | _ => none }
def ExprSubstitutesWrongFalsely : Prop := exprSubstitutesRow.holds Tryd.pinned (OpenSpec.ofChange exprSubstitutesWrong)

/-- 'alumlaw36.ExprChecksAsSpecified': WHATEVER THE INPUT: true; the input reads as it did. -/
def exprChecksAsSpecifiedSpec : ChangeSpec := { name := "exprChecksAsSpecified", fn := fun _ => fun
  | [d1, d2, d3] => { results := [.lit (.bool true)], args := [d1, d2, d3] }
  | _ => none }
def exprChecksAsSpecifiedRow : OpenClaim := { program := "ytjiijjfpmaligaadoor", sum := "7e65f571d0e8bb754815e0fae94e4c5cfab763e560e1ca79abca4f69cb2db026", func := "alum/alumlaw36.ExprChecksAsSpecified", spec := "exprChecksAsSpecified", inPlace := ["internal/bytealg.abigen_runtime_cmpstring"], unfollowed := true, recurses := true, named := ["alum/expr.operators"], loops := true, apart := false, laid := [("alum/expr.operators", laid_alum_expr_operators)] }
def ExprChecksAsSpecifiedSaid : Prop := exprChecksAsSpecifiedRow.holds Tryd.pinned (OpenSpec.ofChange exprChecksAsSpecifiedSpec)

/-- ITS FALSE NEIGHBOUR: 'it returns false'. Refute it at one input. -/
def exprChecksAsSpecifiedWrong : ChangeSpec := { name := "exprChecksAsSpecified", fn := fun _ => fun
  | [d1, d2, d3] => { results := [.lit (.bool false)], args := [d1, d2, d3] }
  | _ => none }
def ExprChecksAsSpecifiedWrongFalsely : Prop := exprChecksAsSpecifiedRow.holds Tryd.pinned (OpenSpec.ofChange exprChecksAsSpecifiedWrong)

/- THE SECOND FORM. 'bulk': how many values and letters a reading holds, each counted each time it is reached (what is shared counts as often as it is met; a slice's spare places count too). A statement '..UptoSaid' is the law's where the arguments, and the package variables that the reading takes, are together of bulk at most 1048576: NARROWER than '..Said'. Prove '..Said' where nothing that the law and all that it calls make is longer than what came in: it says more and counts as full. Else prove '..UptoSaid'. A law counts once. -/
mutual
def uptoBulk {H : Type} : DataW H → Nat
  | .lit (.string bytes) => bytes.length + 1
  | .lit _ => 1
  | .nil => 1
  | .ptr d => uptoBulk d + 1
  | .slice elems spare => uptoBulkAll elems + uptoBulkAll spare + 1
  | .agg parts => uptoBulkAll parts + 1
  | .iface _ d => uptoBulk d + 1
  | .map entries => uptoBulkEntries entries + 1
  | .held _ => 1
def uptoBulkAll {H : Type} : List (DataW H) → Nat
  | [] => 0
  | d :: r => uptoBulk d + uptoBulkAll r
def uptoBulkEntries {H : Type} : List (Lit × DataW H) → Nat
  | [] => 0
  | x :: r => uptoBulkEntry x + uptoBulkEntries r
def uptoBulkEntry {H : Type} : Lit × DataW H → Nat
  | (.string bytes, d) => bytes.length + uptoBulk d + 1
  | (_, d) => uptoBulk d + 1
 end
def uptoSmall : (H : Type) → List (DataW H) → Bool := fun _ ds => decide (uptoBulkAll ds ≤ 1048576)
def OpenSpec.upto (s : _root_.Go.ChangeSpec) : _root_.Go.OpenSpec := { _root_.Go.OpenSpec.ofChange s with cond := some uptoSmall }

/-- 'alumlaw36.ExprEvaluatesAsSpecified', WHERE WHAT IT READS IS OF BULK AT MOST 1048576: true; the input reads as it did. -/
def exprEvaluatesAsSpecifiedUptoRow : OpenClaim := { program := "ytjiijjfpmaligaadoor", sum := "7e65f571d0e8bb754815e0fae94e4c5cfab763e560e1ca79abca4f69cb2db026", func := "alum/alumlaw36.ExprEvaluatesAsSpecified", spec := "exprEvaluatesAsSpecified", inPlace := ["internal/bytealg.abigen_runtime_cmpstring"], unfollowed := true, recurses := true, named := ["alum/expr.operators"], loops := true, apart := false, laid := [("alum/expr.operators", laid_alum_expr_operators)], narrowed := true }
def ExprEvaluatesAsSpecifiedUptoSaid : Prop := exprEvaluatesAsSpecifiedUptoRow.holds Tryd.pinned (OpenSpec.upto exprEvaluatesAsSpecifiedSpec)

/-- 'alumlaw36.ExprKeepsKinds', WHERE WHAT IT READS IS OF BULK AT MOST 1048576: true; the input reads as it did. -/
def exprKeepsKindsUptoRow : OpenClaim := { program := "ytjiijjfpmaligaadoor", sum := "7e65f571d0e8bb754815e0fae94e4c5cfab763e560e1ca79abca4f69cb2db026", func := "alum/alumlaw36.ExprKeepsKinds", spec := "exprKeepsKinds", inPlace := ["internal/bytealg.abigen_runtime_cmpstring"], unfollowed := true, recurses := true, named := ["alum/expr.operators"], loops := true, apart := false, laid := [("alum/expr.operators", laid_alum_expr_operators)], narrowed := true }
def ExprKeepsKindsUptoSaid : Prop := exprKeepsKindsUptoRow.holds Tryd.pinned (OpenSpec.upto exprKeepsKindsSpec)

/-- 'alumlaw36.ExprMeetIsBoth', WHERE WHAT IT READS IS OF BULK AT MOST 1048576: true; the input reads as it did. -/
def exprMeetIsBothUptoRow : OpenClaim := { program := "ytjiijjfpmaligaadoor", sum := "7e65f571d0e8bb754815e0fae94e4c5cfab763e560e1ca79abca4f69cb2db026", func := "alum/alumlaw36.ExprMeetIsBoth", spec := "exprMeetIsBoth", inPlace := ["internal/bytealg.abigen_runtime_cmpstring"], unfollowed := true, recurses := true, named := ["alum/expr.operators"], apart := false, laid := [("alum/expr.operators", laid_alum_expr_operators)], narrowed := true }
def ExprMeetIsBothUptoSaid : Prop := exprMeetIsBothUptoRow.holds Tryd.pinned (OpenSpec.upto exprMeetIsBothSpec)

/-- 'alumlaw36.ExprBoundsHold', WHERE WHAT IT READS IS OF BULK AT MOST 1048576: true; the input reads as it did. -/
def exprBoundsHoldUptoRow : OpenClaim := { program := "ytjiijjfpmaligaadoor", sum := "7e65f571d0e8bb754815e0fae94e4c5cfab763e560e1ca79abca4f69cb2db026", func := "alum/alumlaw36.ExprBoundsHold", spec := "exprBoundsHold", inPlace := ["internal/bytealg.abigen_runtime_cmpstring"], unfollowed := true, recurses := true, named := ["alum/expr.operators"], loops := true, apart := false, laid := [("alum/expr.operators", laid_alum_expr_operators)], narrowed := true }
def ExprBoundsHoldUptoSaid : Prop := exprBoundsHoldUptoRow.holds Tryd.pinned (OpenSpec.upto exprBoundsHoldSpec)

/-- 'alumlaw36.ExprSimplifyMatchesSpec', WHERE WHAT IT READS IS OF BULK AT MOST 1048576: true; the input reads as it did. -/
def exprSimplifyMatchesSpecUptoRow : OpenClaim := { program := "ytjiijjfpmaligaadoor", sum := "7e65f571d0e8bb754815e0fae94e4c5cfab763e560e1ca79abca4f69cb2db026", func := "alum/alumlaw36.ExprSimplifyMatchesSpec", spec := "exprSimplifyMatchesSpec", inPlace := ["internal/bytealg.abigen_runtime_cmpstring"], unfollowed := true, recurses := true, named := ["alum/expr.operators"], loops := true, apart := false, laid := [("alum/expr.operators", laid_alum_expr_operators)], narrowed := true }
def ExprSimplifyMatchesSpecUptoSaid : Prop := exprSimplifyMatchesSpecUptoRow.holds Tryd.pinned (OpenSpec.upto exprSimplifyMatchesSpecSpec)

/-- 'alumlaw36.ExprSimplifyKeepsMeaning', WHERE WHAT IT READS IS OF BULK AT MOST 1048576: true; the input reads as it did. -/
def exprSimplifyKeepsMeaningUptoRow : OpenClaim := { program := "ytjiijjfpmaligaadoor", sum := "7e65f571d0e8bb754815e0fae94e4c5cfab763e560e1ca79abca4f69cb2db026", func := "alum/alumlaw36.ExprSimplifyKeepsMeaning", spec := "exprSimplifyKeepsMeaning", inPlace := ["internal/bytealg.abigen_runtime_cmpstring"], unfollowed := true, recurses := true, named := ["alum/expr.operators"], loops := true, apart := false, laid := [("alum/expr.operators", laid_alum_expr_operators)], narrowed := true }
def ExprSimplifyKeepsMeaningUptoSaid : Prop := exprSimplifyKeepsMeaningUptoRow.holds Tryd.pinned (OpenSpec.upto exprSimplifyKeepsMeaningSpec)

/-- 'alumlaw36.ExprSubstitutes', WHERE WHAT IT READS IS OF BULK AT MOST 1048576: true; the input reads as it did. -/
def exprSubstitutesUptoRow : OpenClaim := { program := "ytjiijjfpmaligaadoor", sum := "7e65f571d0e8bb754815e0fae94e4c5cfab763e560e1ca79abca4f69cb2db026", func := "alum/alumlaw36.ExprSubstitutes", spec := "exprSubstitutes", inPlace := ["internal/bytealg.abigen_runtime_cmpstring"], unfollowed := true, recurses := true, named := ["alum/expr.operators"], loops := true, apart := false, laid := [("alum/expr.operators", laid_alum_expr_operators)], narrowed := true }
def ExprSubstitutesUptoSaid : Prop := exprSubstitutesUptoRow.holds Tryd.pinned (OpenSpec.upto exprSubstitutesSpec)

/-- 'alumlaw36.ExprChecksAsSpecified', WHERE WHAT IT READS IS OF BULK AT MOST 1048576: true; the input reads as it did. -/
def exprChecksAsSpecifiedUptoRow : OpenClaim := { program := "ytjiijjfpmaligaadoor", sum := "7e65f571d0e8bb754815e0fae94e4c5cfab763e560e1ca79abca4f69cb2db026", func := "alum/alumlaw36.ExprChecksAsSpecified", spec := "exprChecksAsSpecified", inPlace := ["internal/bytealg.abigen_runtime_cmpstring"], unfollowed := true, recurses := true, named := ["alum/expr.operators"], loops := true, apart := false, laid := [("alum/expr.operators", laid_alum_expr_operators)], narrowed := true }
def ExprChecksAsSpecifiedUptoSaid : Prop := exprChecksAsSpecifiedUptoRow.holds Tryd.pinned (OpenSpec.upto exprChecksAsSpecifiedSpec)

end Rows
end Go.Proofs.YtjiijjfpmaligaaDoor

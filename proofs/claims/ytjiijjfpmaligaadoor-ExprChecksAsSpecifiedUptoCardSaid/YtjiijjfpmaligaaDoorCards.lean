/-
  DERIVED. GIVEN WITH THE SEED: THE CARDS: each row of YtjiijjfpmaligaaDoorRows.lean that lists a variable, with what it lists TIED to the program's text (the seventh form; the later family's looks); each row that meets fmt, with fmt's text TOLD by the authors' own Lean function (tested against real Go, not proved from fmt's source: count such statements apart). THE CARD IS WHAT COUNTS. Prove the row's statement (the work); the ties are given (YtjiijjfpmaligaaDoorTie.lean); close each card by the builder's one call (the guide's Derived/Test/ToyasCard.lean, 'card_holds'). Laid BY PROGRAM, IN A SANDBOX (cutbox-door.mjs). By AI agents, Wed Nov 11 2026. No macro, syntax, notation, axiom, sorry.
-/
import Derived.Test.YtjiijjfpmaligaaDoorRows
import GoSem.ClaimSeven
namespace Go.Proofs.YtjiijjfpmaligaaDoor
namespace Rows

/-- THE TIED CARD OF 'alumlaw36.ExprEvaluatesAsSpecified'. -/
def exprEvaluatesAsSpecifiedCard : Claim7 := { stood := { row := exprEvaluatesAsSpecifiedRow, standIns := [], harness := (true, "b7661cf0bff8100556bd4cda4f5bcf84835e95ec6d707c6e7d3b77b3d41cc861"), looks := false }, kinds := [], alts := [], laidByText := true, laidKinds := [.funcs], laidTests := true, laidLooks := .later }
def ExprEvaluatesAsSpecifiedCardSaid : Prop := Claim7.holds Tryd.pinned (.plain (OpenSpec.ofChange exprEvaluatesAsSpecifiedSpec)) exprEvaluatesAsSpecifiedCard

/-- THE TIED CARD OF 'alumlaw36.ExprKeepsKinds'. -/
def exprKeepsKindsCard : Claim7 := { stood := { row := exprKeepsKindsRow, standIns := [], harness := (true, "b7661cf0bff8100556bd4cda4f5bcf84835e95ec6d707c6e7d3b77b3d41cc861"), looks := false }, kinds := [], alts := [], laidByText := true, laidKinds := [.funcs], laidTests := true, laidLooks := .later }
def ExprKeepsKindsCardSaid : Prop := Claim7.holds Tryd.pinned (.plain (OpenSpec.ofChange exprKeepsKindsSpec)) exprKeepsKindsCard

/-- THE TIED CARD OF 'alumlaw36.ExprMeetIsBoth'. -/
def exprMeetIsBothCard : Claim7 := { stood := { row := exprMeetIsBothRow, standIns := [], harness := (true, "b7661cf0bff8100556bd4cda4f5bcf84835e95ec6d707c6e7d3b77b3d41cc861"), looks := false }, kinds := [], alts := [], laidByText := true, laidKinds := [.funcs], laidTests := true, laidLooks := .later }
def ExprMeetIsBothCardSaid : Prop := Claim7.holds Tryd.pinned (.plain (OpenSpec.ofChange exprMeetIsBothSpec)) exprMeetIsBothCard

/-- THE TIED CARD OF 'alumlaw36.ExprBoundsHold'. -/
def exprBoundsHoldCard : Claim7 := { stood := { row := exprBoundsHoldRow, standIns := [], harness := (true, "b7661cf0bff8100556bd4cda4f5bcf84835e95ec6d707c6e7d3b77b3d41cc861"), looks := false }, kinds := [], alts := [], laidByText := true, laidKinds := [.funcs], laidTests := true, laidLooks := .later }
def ExprBoundsHoldCardSaid : Prop := Claim7.holds Tryd.pinned (.plain (OpenSpec.ofChange exprBoundsHoldSpec)) exprBoundsHoldCard

/-- THE TIED CARD OF 'alumlaw36.ExprSimplifyMatchesSpec'. -/
def exprSimplifyMatchesSpecCard : Claim7 := { stood := { row := exprSimplifyMatchesSpecRow, standIns := [], harness := (true, "b7661cf0bff8100556bd4cda4f5bcf84835e95ec6d707c6e7d3b77b3d41cc861"), looks := false }, kinds := [], alts := [], laidByText := true, laidKinds := [.funcs], laidTests := true, laidLooks := .later }
def ExprSimplifyMatchesSpecCardSaid : Prop := Claim7.holds Tryd.pinned (.plain (OpenSpec.ofChange exprSimplifyMatchesSpecSpec)) exprSimplifyMatchesSpecCard

/-- THE TIED CARD OF 'alumlaw36.ExprSimplifyKeepsMeaning'. -/
def exprSimplifyKeepsMeaningCard : Claim7 := { stood := { row := exprSimplifyKeepsMeaningRow, standIns := [], harness := (true, "b7661cf0bff8100556bd4cda4f5bcf84835e95ec6d707c6e7d3b77b3d41cc861"), looks := false }, kinds := [], alts := [], laidByText := true, laidKinds := [.funcs], laidTests := true, laidLooks := .later }
def ExprSimplifyKeepsMeaningCardSaid : Prop := Claim7.holds Tryd.pinned (.plain (OpenSpec.ofChange exprSimplifyKeepsMeaningSpec)) exprSimplifyKeepsMeaningCard

/-- THE TIED CARD OF 'alumlaw36.ExprSubstitutes'. -/
def exprSubstitutesCard : Claim7 := { stood := { row := exprSubstitutesRow, standIns := [], harness := (true, "b7661cf0bff8100556bd4cda4f5bcf84835e95ec6d707c6e7d3b77b3d41cc861"), looks := false }, kinds := [], alts := [], laidByText := true, laidKinds := [.funcs], laidTests := true, laidLooks := .later }
def ExprSubstitutesCardSaid : Prop := Claim7.holds Tryd.pinned (.plain (OpenSpec.ofChange exprSubstitutesSpec)) exprSubstitutesCard

/-- THE TIED CARD OF 'alumlaw36.ExprChecksAsSpecified'. -/
def exprChecksAsSpecifiedCard : Claim7 := { stood := { row := exprChecksAsSpecifiedRow, standIns := [], harness := (true, "b7661cf0bff8100556bd4cda4f5bcf84835e95ec6d707c6e7d3b77b3d41cc861"), looks := false }, kinds := [], alts := [], laidByText := true, laidKinds := [.funcs], laidTests := true, laidLooks := .later }
def ExprChecksAsSpecifiedCardSaid : Prop := Claim7.holds Tryd.pinned (.plain (OpenSpec.ofChange exprChecksAsSpecifiedSpec)) exprChecksAsSpecifiedCard

/-- THE SECOND FORM's CARD OF 'alumlaw36.ExprEvaluatesAsSpecified'. -/
def exprEvaluatesAsSpecifiedUptoCard : Claim7 := { stood := { row := exprEvaluatesAsSpecifiedUptoRow, standIns := [], harness := (true, "b7661cf0bff8100556bd4cda4f5bcf84835e95ec6d707c6e7d3b77b3d41cc861"), looks := false }, kinds := [], alts := [], laidByText := true, laidKinds := [.funcs], laidTests := true, laidLooks := .later }
def ExprEvaluatesAsSpecifiedUptoCardSaid : Prop := Claim7.holds Tryd.pinned (.plain (OpenSpec.upto exprEvaluatesAsSpecifiedSpec)) exprEvaluatesAsSpecifiedUptoCard

/-- THE SECOND FORM's CARD OF 'alumlaw36.ExprKeepsKinds'. -/
def exprKeepsKindsUptoCard : Claim7 := { stood := { row := exprKeepsKindsUptoRow, standIns := [], harness := (true, "b7661cf0bff8100556bd4cda4f5bcf84835e95ec6d707c6e7d3b77b3d41cc861"), looks := false }, kinds := [], alts := [], laidByText := true, laidKinds := [.funcs], laidTests := true, laidLooks := .later }
def ExprKeepsKindsUptoCardSaid : Prop := Claim7.holds Tryd.pinned (.plain (OpenSpec.upto exprKeepsKindsSpec)) exprKeepsKindsUptoCard

/-- THE SECOND FORM's CARD OF 'alumlaw36.ExprMeetIsBoth'. -/
def exprMeetIsBothUptoCard : Claim7 := { stood := { row := exprMeetIsBothUptoRow, standIns := [], harness := (true, "b7661cf0bff8100556bd4cda4f5bcf84835e95ec6d707c6e7d3b77b3d41cc861"), looks := false }, kinds := [], alts := [], laidByText := true, laidKinds := [.funcs], laidTests := true, laidLooks := .later }
def ExprMeetIsBothUptoCardSaid : Prop := Claim7.holds Tryd.pinned (.plain (OpenSpec.upto exprMeetIsBothSpec)) exprMeetIsBothUptoCard

/-- THE SECOND FORM's CARD OF 'alumlaw36.ExprBoundsHold'. -/
def exprBoundsHoldUptoCard : Claim7 := { stood := { row := exprBoundsHoldUptoRow, standIns := [], harness := (true, "b7661cf0bff8100556bd4cda4f5bcf84835e95ec6d707c6e7d3b77b3d41cc861"), looks := false }, kinds := [], alts := [], laidByText := true, laidKinds := [.funcs], laidTests := true, laidLooks := .later }
def ExprBoundsHoldUptoCardSaid : Prop := Claim7.holds Tryd.pinned (.plain (OpenSpec.upto exprBoundsHoldSpec)) exprBoundsHoldUptoCard

/-- THE SECOND FORM's CARD OF 'alumlaw36.ExprSimplifyMatchesSpec'. -/
def exprSimplifyMatchesSpecUptoCard : Claim7 := { stood := { row := exprSimplifyMatchesSpecUptoRow, standIns := [], harness := (true, "b7661cf0bff8100556bd4cda4f5bcf84835e95ec6d707c6e7d3b77b3d41cc861"), looks := false }, kinds := [], alts := [], laidByText := true, laidKinds := [.funcs], laidTests := true, laidLooks := .later }
def ExprSimplifyMatchesSpecUptoCardSaid : Prop := Claim7.holds Tryd.pinned (.plain (OpenSpec.upto exprSimplifyMatchesSpecSpec)) exprSimplifyMatchesSpecUptoCard

/-- THE SECOND FORM's CARD OF 'alumlaw36.ExprSimplifyKeepsMeaning'. -/
def exprSimplifyKeepsMeaningUptoCard : Claim7 := { stood := { row := exprSimplifyKeepsMeaningUptoRow, standIns := [], harness := (true, "b7661cf0bff8100556bd4cda4f5bcf84835e95ec6d707c6e7d3b77b3d41cc861"), looks := false }, kinds := [], alts := [], laidByText := true, laidKinds := [.funcs], laidTests := true, laidLooks := .later }
def ExprSimplifyKeepsMeaningUptoCardSaid : Prop := Claim7.holds Tryd.pinned (.plain (OpenSpec.upto exprSimplifyKeepsMeaningSpec)) exprSimplifyKeepsMeaningUptoCard

/-- THE SECOND FORM's CARD OF 'alumlaw36.ExprSubstitutes'. -/
def exprSubstitutesUptoCard : Claim7 := { stood := { row := exprSubstitutesUptoRow, standIns := [], harness := (true, "b7661cf0bff8100556bd4cda4f5bcf84835e95ec6d707c6e7d3b77b3d41cc861"), looks := false }, kinds := [], alts := [], laidByText := true, laidKinds := [.funcs], laidTests := true, laidLooks := .later }
def ExprSubstitutesUptoCardSaid : Prop := Claim7.holds Tryd.pinned (.plain (OpenSpec.upto exprSubstitutesSpec)) exprSubstitutesUptoCard

/-- THE SECOND FORM's CARD OF 'alumlaw36.ExprChecksAsSpecified'. -/
def exprChecksAsSpecifiedUptoCard : Claim7 := { stood := { row := exprChecksAsSpecifiedUptoRow, standIns := [], harness := (true, "b7661cf0bff8100556bd4cda4f5bcf84835e95ec6d707c6e7d3b77b3d41cc861"), looks := false }, kinds := [], alts := [], laidByText := true, laidKinds := [.funcs], laidTests := true, laidLooks := .later }
def ExprChecksAsSpecifiedUptoCardSaid : Prop := Claim7.holds Tryd.pinned (.plain (OpenSpec.upto exprChecksAsSpecifiedSpec)) exprChecksAsSpecifiedUptoCard
end Rows
end Go.Proofs.YtjiijjfpmaligaaDoor

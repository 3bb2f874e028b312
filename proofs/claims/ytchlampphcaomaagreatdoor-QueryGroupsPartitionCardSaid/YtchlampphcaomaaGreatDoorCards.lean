/-
  DERIVED. GIVEN WITH THE SEED: THE CARDS: each row of YtchlampphcaomaaGreatDoorRows.lean that lists a variable, with what it lists TIED to the program's text (the seventh form; the later family's looks); each row that meets fmt, with fmt's text TOLD by the authors' own Lean function (tested against real Go, not proved from fmt's source: count such statements apart). THE CARD IS WHAT COUNTS. Prove the row's statement (the work); the ties are given (YtchlampphcaomaaGreatDoorTie.lean); close each card by the builder's one call (the guide's Derived/Test/ToyasCard.lean, 'card_holds'). Laid BY PROGRAM, IN A SANDBOX (cutbox-door.mjs). By AI agents, Wed Nov 11 2026. No macro, syntax, notation, axiom, sorry.
-/
import Derived.Test.YtchlampphcaomaaGreatDoorRows
import GoSem.ClaimSeven
namespace Go.Proofs.YtchlampphcaomaaGreatDoor
namespace Rows

/-- THE TIED CARD OF 'alumlaw37.QueryFiltersSplit'. -/
def queryFiltersSplitCard : Claim7 := { stood := { row := queryFiltersSplitRow, standIns := [], harness := (true, "128d5e3853425fad46d5b5d5377be4fddd235ff3632365e352afce0d44434136"), looks := false }, kinds := [], alts := [], laidByText := true, laidKinds := [.funcs], laidTests := true, laidLooks := .later }
def QueryFiltersSplitCardSaid : Prop := Claim7.holds Tryz.pinned (.plain (OpenSpec.ofChange queryFiltersSplitSpec)) queryFiltersSplitCard

/-- THE TIED CARD OF 'alumlaw37.QueryFiltersMove'. -/
def queryFiltersMoveCard : Claim7 := { stood := { row := queryFiltersMoveRow, standIns := [], harness := (true, "128d5e3853425fad46d5b5d5377be4fddd235ff3632365e352afce0d44434136"), looks := false }, kinds := [], alts := [], laidByText := true, laidKinds := [.funcs], laidTests := true, laidLooks := .later }
def QueryFiltersMoveCardSaid : Prop := Claim7.holds Tryz.pinned (.plain (OpenSpec.ofChange queryFiltersMoveSpec)) queryFiltersMoveCard

/-- THE TIED CARD OF 'alumlaw37.QueryChecksAsSpecified'. -/
def queryChecksAsSpecifiedCard : Claim7 := { stood := { row := queryChecksAsSpecifiedRow, standIns := [], harness := (true, "128d5e3853425fad46d5b5d5377be4fddd235ff3632365e352afce0d44434136"), looks := false }, kinds := [], alts := [], laidByText := true, laidKinds := [.funcs], laidTests := true, laidLooks := .later }
def QueryChecksAsSpecifiedCardSaid : Prop := Claim7.holds Tryz.pinned (.plain (OpenSpec.ofChange queryChecksAsSpecifiedSpec)) queryChecksAsSpecifiedCard

/-- THE TIED CARD OF 'alumlaw37.QueryComparesBags'. -/
def queryComparesBagsCard : Claim7 := { stood := { row := queryComparesBagsRow, standIns := [], harness := (true, "128d5e3853425fad46d5b5d5377be4fddd235ff3632365e352afce0d44434136"), looks := false }, kinds := [], alts := [], laidByText := true, laidKinds := [.funcs], laidTests := true, laidLooks := .later }
def QueryComparesBagsCardSaid : Prop := Claim7.holds Tryz.pinned (.plain (OpenSpec.ofChange queryComparesBagsSpec)) queryComparesBagsCard

/-- THE TIED CARD OF 'alumlaw37.QueryJoinsTurn'. -/
def queryJoinsTurnCard : Claim7 := { stood := { row := queryJoinsTurnRow, standIns := [], harness := (true, "128d5e3853425fad46d5b5d5377be4fddd235ff3632365e352afce0d44434136"), looks := false }, kinds := [], alts := [], laidByText := true, laidKinds := [.funcs], laidTests := true, laidLooks := .later }
def QueryJoinsTurnCardSaid : Prop := Claim7.holds Tryz.pinned (.plain (OpenSpec.ofChange queryJoinsTurnSpec)) queryJoinsTurnCard

/-- THE TIED CARD OF 'alumlaw37.QueryGroupsPartition'. -/
def queryGroupsPartitionCard : Claim7 := { stood := { row := queryGroupsPartitionRow, standIns := [], harness := (true, "128d5e3853425fad46d5b5d5377be4fddd235ff3632365e352afce0d44434136"), looks := false }, kinds := [], alts := [], laidByText := true, laidKinds := [.funcs], laidTests := true, laidLooks := .later }
def QueryGroupsPartitionCardSaid : Prop := Claim7.holds Tryz.pinned (.plain (OpenSpec.ofChange queryGroupsPartitionSpec)) queryGroupsPartitionCard

/-- THE SECOND FORM's CARD OF 'alumlaw37.QueryFiltersSplit'. -/
def queryFiltersSplitUptoCard : Claim7 := { stood := { row := queryFiltersSplitUptoRow, standIns := [], harness := (true, "128d5e3853425fad46d5b5d5377be4fddd235ff3632365e352afce0d44434136"), looks := false }, kinds := [], alts := [], laidByText := true, laidKinds := [.funcs], laidTests := true, laidLooks := .later }
def QueryFiltersSplitUptoCardSaid : Prop := Claim7.holds Tryz.pinned (.plain (OpenSpec.upto queryFiltersSplitSpec)) queryFiltersSplitUptoCard

/-- THE SECOND FORM's CARD OF 'alumlaw37.QueryFiltersMove'. -/
def queryFiltersMoveUptoCard : Claim7 := { stood := { row := queryFiltersMoveUptoRow, standIns := [], harness := (true, "128d5e3853425fad46d5b5d5377be4fddd235ff3632365e352afce0d44434136"), looks := false }, kinds := [], alts := [], laidByText := true, laidKinds := [.funcs], laidTests := true, laidLooks := .later }
def QueryFiltersMoveUptoCardSaid : Prop := Claim7.holds Tryz.pinned (.plain (OpenSpec.upto queryFiltersMoveSpec)) queryFiltersMoveUptoCard

/-- THE SECOND FORM's CARD OF 'alumlaw37.QueryChecksAsSpecified'. -/
def queryChecksAsSpecifiedUptoCard : Claim7 := { stood := { row := queryChecksAsSpecifiedUptoRow, standIns := [], harness := (true, "128d5e3853425fad46d5b5d5377be4fddd235ff3632365e352afce0d44434136"), looks := false }, kinds := [], alts := [], laidByText := true, laidKinds := [.funcs], laidTests := true, laidLooks := .later }
def QueryChecksAsSpecifiedUptoCardSaid : Prop := Claim7.holds Tryz.pinned (.plain (OpenSpec.upto queryChecksAsSpecifiedSpec)) queryChecksAsSpecifiedUptoCard

/-- THE SECOND FORM's CARD OF 'alumlaw37.QueryComparesBags'. -/
def queryComparesBagsUptoCard : Claim7 := { stood := { row := queryComparesBagsUptoRow, standIns := [], harness := (true, "128d5e3853425fad46d5b5d5377be4fddd235ff3632365e352afce0d44434136"), looks := false }, kinds := [], alts := [], laidByText := true, laidKinds := [.funcs], laidTests := true, laidLooks := .later }
def QueryComparesBagsUptoCardSaid : Prop := Claim7.holds Tryz.pinned (.plain (OpenSpec.upto queryComparesBagsSpec)) queryComparesBagsUptoCard

/-- THE SECOND FORM's CARD OF 'alumlaw37.QueryJoinsTurn'. -/
def queryJoinsTurnUptoCard : Claim7 := { stood := { row := queryJoinsTurnUptoRow, standIns := [], harness := (true, "128d5e3853425fad46d5b5d5377be4fddd235ff3632365e352afce0d44434136"), looks := false }, kinds := [], alts := [], laidByText := true, laidKinds := [.funcs], laidTests := true, laidLooks := .later }
def QueryJoinsTurnUptoCardSaid : Prop := Claim7.holds Tryz.pinned (.plain (OpenSpec.upto queryJoinsTurnSpec)) queryJoinsTurnUptoCard

/-- THE SECOND FORM's CARD OF 'alumlaw37.QueryGroupsPartition'. -/
def queryGroupsPartitionUptoCard : Claim7 := { stood := { row := queryGroupsPartitionUptoRow, standIns := [], harness := (true, "128d5e3853425fad46d5b5d5377be4fddd235ff3632365e352afce0d44434136"), looks := false }, kinds := [], alts := [], laidByText := true, laidKinds := [.funcs], laidTests := true, laidLooks := .later }
def QueryGroupsPartitionUptoCardSaid : Prop := Claim7.holds Tryz.pinned (.plain (OpenSpec.upto queryGroupsPartitionSpec)) queryGroupsPartitionUptoCard
end Rows
end Go.Proofs.YtchlampphcaomaaGreatDoor

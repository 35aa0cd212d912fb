/-
  DERIVED. GIVEN WITH THE SEED: THE CARDS: each row of YtgfjlflbhipliaaGreatDoorRows.lean that lists a variable, with what it lists TIED to the program's text (the seventh form; the later family's looks); each row that meets fmt, with fmt's text TOLD by the authors' own Lean function (tested against real Go, not proved from fmt's source: count such statements apart). THE CARD IS WHAT COUNTS. Prove the row's statement (the work); the ties are given (YtgfjlflbhipliaaGreatDoorTie.lean); close each card by the builder's one call (the guide's Derived/Test/ToyasCard.lean, 'card_holds'). Laid BY PROGRAM, IN A SANDBOX (cutbox-door.mjs). By AI agents, Wed Nov 11 2026. No macro, syntax, notation, axiom, sorry.
-/
import Derived.Test.YtgfjlflbhipliaaGreatDoorRows
import GoSem.ClaimSeven
namespace Go.Proofs.YtgfjlflbhipliaaGreatDoor
namespace Rows

/-- THE TIED CARD OF 'ablautlaw12.InterplayMatters'. -/
def interplayMattersCard : Claim7 := { stood := { row := interplayMattersRow, standIns := [], harness := (true, "69062e5c7ccca2832924f405734055736dfba32cd417b2390911948f3b3105a8"), looks := true }, kinds := [], alts := [], laidByText := true, laidKinds := [.data, .data, .pinned], laidTests := true, laidLooks := .later }
def InterplayMattersCardSaid : Prop := Claim7.holds Tryz.pinned (.plain (OpenSpec.ofChange interplayMattersSpec)) interplayMattersCard

/-- THE TIED CARD OF 'ablautlaw12.InterplayBlocks'. -/
def interplayBlocksCard : Claim7 := { stood := { row := interplayBlocksRow, standIns := [], harness := (true, "69062e5c7ccca2832924f405734055736dfba32cd417b2390911948f3b3105a8"), looks := true }, kinds := [], alts := [], laidByText := true, laidKinds := [.data, .data, .pinned], laidTests := true, laidLooks := .later }
def InterplayBlocksCardSaid : Prop := Claim7.holds Tryz.pinned (.plain (OpenSpec.ofChange interplayBlocksSpec)) interplayBlocksCard

/-- THE TIED CARD OF 'ablautlaw12.InterplaySides'. -/
def interplaySidesCard : Claim7 := { stood := { row := interplaySidesRow, standIns := [], harness := (true, "69062e5c7ccca2832924f405734055736dfba32cd417b2390911948f3b3105a8"), looks := true }, kinds := [], alts := [], laidByText := true, laidKinds := [.data, .data, .pinned], laidTests := true, laidLooks := .later }
def InterplaySidesCardSaid : Prop := Claim7.holds Tryz.pinned (.plain (OpenSpec.ofChange interplaySidesSpec)) interplaySidesCard

/-- THE TIED CARD OF 'ablautlaw12.InterplayFirst'. -/
def interplayFirstCard : Claim7 := { stood := { row := interplayFirstRow, standIns := [], harness := (true, "69062e5c7ccca2832924f405734055736dfba32cd417b2390911948f3b3105a8"), looks := true }, kinds := [], alts := [], laidByText := true, laidKinds := [.data, .data, .pinned], laidTests := true, laidLooks := .later }
def InterplayFirstCardSaid : Prop := Claim7.holds Tryz.pinned (.plain (OpenSpec.ofChange interplayFirstSpec)) interplayFirstCard

/-- THE TIED CARD OF 'ablautlaw12.InterplayMoves'. -/
def interplayMovesCard : Claim7 := { stood := { row := interplayMovesRow, standIns := [], harness := (true, "69062e5c7ccca2832924f405734055736dfba32cd417b2390911948f3b3105a8"), looks := true }, kinds := [], alts := [], laidByText := true, laidKinds := [.data, .data, .pinned], laidTests := true, laidLooks := .later }
def InterplayMovesCardSaid : Prop := Claim7.holds Tryz.pinned (.plain (OpenSpec.ofChange interplayMovesSpec)) interplayMovesCard

/-- THE TIED CARD OF 'ablautlaw12.InterplaySelf'. -/
def interplaySelfCard : Claim7 := { stood := { row := interplaySelfRow, standIns := [], harness := (true, "69062e5c7ccca2832924f405734055736dfba32cd417b2390911948f3b3105a8"), looks := true }, kinds := [], alts := [], laidByText := true, laidKinds := [.data, .data, .pinned], laidTests := true, laidLooks := .later }
def InterplaySelfCardSaid : Prop := Claim7.holds Tryz.pinned (.plain (OpenSpec.ofChange interplaySelfSpec)) interplaySelfCard

/-- THE TIED CARD OF 'ablautlaw12.InterplayFree'. -/
def interplayFreeCard : Claim7 := { stood := { row := interplayFreeRow, standIns := [], harness := (true, "69062e5c7ccca2832924f405734055736dfba32cd417b2390911948f3b3105a8"), looks := true }, kinds := [], alts := [], laidByText := true, laidKinds := [.data, .data, .pinned], laidTests := true, laidLooks := .later }
def InterplayFreeCardSaid : Prop := Claim7.holds Tryz.pinned (.plain (OpenSpec.ofChange interplayFreeSpec)) interplayFreeCard

/-- THE TIED CARD OF 'ablautlaw12.InterplayRelations'. -/
def interplayRelationsCard : Claim7 := { stood := { row := interplayRelationsRow, standIns := [], harness := (true, "69062e5c7ccca2832924f405734055736dfba32cd417b2390911948f3b3105a8"), looks := true }, kinds := [], alts := [], laidByText := true, laidKinds := [.data, .data, .pinned], laidTests := true, laidLooks := .later }
def InterplayRelationsCardSaid : Prop := Claim7.holds Tryz.pinned (.plain (OpenSpec.ofChange interplayRelationsSpec)) interplayRelationsCard

/-- THE TIED CARD OF 'ablautlaw12.InterplayNear'. -/
def interplayNearCard : Claim7 := { stood := { row := interplayNearRow, standIns := [], harness := (true, "69062e5c7ccca2832924f405734055736dfba32cd417b2390911948f3b3105a8"), looks := true }, kinds := [], alts := [], laidByText := true, laidKinds := [.data, .data, .pinned], laidTests := true, laidLooks := .later }
def InterplayNearCardSaid : Prop := Claim7.holds Tryz.pinned (.plain (OpenSpec.ofChange interplayNearSpec)) interplayNearCard

/-- THE TIED CARD OF 'ablautlaw12.InterplaySwaps'. -/
def interplaySwapsCard : Claim7 := { stood := { row := interplaySwapsRow, standIns := [], harness := (true, "69062e5c7ccca2832924f405734055736dfba32cd417b2390911948f3b3105a8"), looks := true }, kinds := [], alts := [], laidByText := true, laidKinds := [.data, .data, .pinned], laidTests := true, laidLooks := .later }
def InterplaySwapsCardSaid : Prop := Claim7.holds Tryz.pinned (.plain (OpenSpec.ofChange interplaySwapsSpec)) interplaySwapsCard

/-- THE TIED CARD OF 'ablautlaw12.InterplayTwo'. -/
def interplayTwoCard : Claim7 := { stood := { row := interplayTwoRow, standIns := [], harness := (true, "69062e5c7ccca2832924f405734055736dfba32cd417b2390911948f3b3105a8"), looks := true }, kinds := [], alts := [], laidByText := true, laidKinds := [.data, .data, .pinned], laidTests := true, laidLooks := .later }
def InterplayTwoCardSaid : Prop := Claim7.holds Tryz.pinned (.plain (OpenSpec.ofChange interplayTwoSpec)) interplayTwoCard

/-- THE TIED CARD OF 'ablautlaw12.InterplayTables'. -/
def interplayTablesCard : Claim7 := { stood := { row := interplayTablesRow, standIns := [], harness := (true, "69062e5c7ccca2832924f405734055736dfba32cd417b2390911948f3b3105a8"), looks := true }, kinds := [], alts := [], laidByText := true, laidKinds := [.data, .data, .pinned], laidTests := true, laidLooks := .later }
def InterplayTablesCardSaid : Prop := Claim7.holds Tryz.pinned (.plain (OpenSpec.ofChange interplayTablesSpec)) interplayTablesCard

/-- THE SECOND FORM's CARD OF 'ablautlaw12.InterplayMatters'. -/
def interplayMattersUptoCard : Claim7 := { stood := { row := interplayMattersUptoRow, standIns := [], harness := (true, "69062e5c7ccca2832924f405734055736dfba32cd417b2390911948f3b3105a8"), looks := true }, kinds := [], alts := [], laidByText := true, laidKinds := [.data, .data, .pinned], laidTests := true, laidLooks := .later }
def InterplayMattersUptoCardSaid : Prop := Claim7.holds Tryz.pinned (.plain (OpenSpec.upto interplayMattersSpec)) interplayMattersUptoCard

/-- THE SECOND FORM's CARD OF 'ablautlaw12.InterplayBlocks'. -/
def interplayBlocksUptoCard : Claim7 := { stood := { row := interplayBlocksUptoRow, standIns := [], harness := (true, "69062e5c7ccca2832924f405734055736dfba32cd417b2390911948f3b3105a8"), looks := true }, kinds := [], alts := [], laidByText := true, laidKinds := [.data, .data, .pinned], laidTests := true, laidLooks := .later }
def InterplayBlocksUptoCardSaid : Prop := Claim7.holds Tryz.pinned (.plain (OpenSpec.upto interplayBlocksSpec)) interplayBlocksUptoCard

/-- THE SECOND FORM's CARD OF 'ablautlaw12.InterplaySides'. -/
def interplaySidesUptoCard : Claim7 := { stood := { row := interplaySidesUptoRow, standIns := [], harness := (true, "69062e5c7ccca2832924f405734055736dfba32cd417b2390911948f3b3105a8"), looks := true }, kinds := [], alts := [], laidByText := true, laidKinds := [.data, .data, .pinned], laidTests := true, laidLooks := .later }
def InterplaySidesUptoCardSaid : Prop := Claim7.holds Tryz.pinned (.plain (OpenSpec.upto interplaySidesSpec)) interplaySidesUptoCard

/-- THE SECOND FORM's CARD OF 'ablautlaw12.InterplayFirst'. -/
def interplayFirstUptoCard : Claim7 := { stood := { row := interplayFirstUptoRow, standIns := [], harness := (true, "69062e5c7ccca2832924f405734055736dfba32cd417b2390911948f3b3105a8"), looks := true }, kinds := [], alts := [], laidByText := true, laidKinds := [.data, .data, .pinned], laidTests := true, laidLooks := .later }
def InterplayFirstUptoCardSaid : Prop := Claim7.holds Tryz.pinned (.plain (OpenSpec.upto interplayFirstSpec)) interplayFirstUptoCard

/-- THE SECOND FORM's CARD OF 'ablautlaw12.InterplayMoves'. -/
def interplayMovesUptoCard : Claim7 := { stood := { row := interplayMovesUptoRow, standIns := [], harness := (true, "69062e5c7ccca2832924f405734055736dfba32cd417b2390911948f3b3105a8"), looks := true }, kinds := [], alts := [], laidByText := true, laidKinds := [.data, .data, .pinned], laidTests := true, laidLooks := .later }
def InterplayMovesUptoCardSaid : Prop := Claim7.holds Tryz.pinned (.plain (OpenSpec.upto interplayMovesSpec)) interplayMovesUptoCard

/-- THE SECOND FORM's CARD OF 'ablautlaw12.InterplaySelf'. -/
def interplaySelfUptoCard : Claim7 := { stood := { row := interplaySelfUptoRow, standIns := [], harness := (true, "69062e5c7ccca2832924f405734055736dfba32cd417b2390911948f3b3105a8"), looks := true }, kinds := [], alts := [], laidByText := true, laidKinds := [.data, .data, .pinned], laidTests := true, laidLooks := .later }
def InterplaySelfUptoCardSaid : Prop := Claim7.holds Tryz.pinned (.plain (OpenSpec.upto interplaySelfSpec)) interplaySelfUptoCard

/-- THE SECOND FORM's CARD OF 'ablautlaw12.InterplayFree'. -/
def interplayFreeUptoCard : Claim7 := { stood := { row := interplayFreeUptoRow, standIns := [], harness := (true, "69062e5c7ccca2832924f405734055736dfba32cd417b2390911948f3b3105a8"), looks := true }, kinds := [], alts := [], laidByText := true, laidKinds := [.data, .data, .pinned], laidTests := true, laidLooks := .later }
def InterplayFreeUptoCardSaid : Prop := Claim7.holds Tryz.pinned (.plain (OpenSpec.upto interplayFreeSpec)) interplayFreeUptoCard

/-- THE SECOND FORM's CARD OF 'ablautlaw12.InterplayRelations'. -/
def interplayRelationsUptoCard : Claim7 := { stood := { row := interplayRelationsUptoRow, standIns := [], harness := (true, "69062e5c7ccca2832924f405734055736dfba32cd417b2390911948f3b3105a8"), looks := true }, kinds := [], alts := [], laidByText := true, laidKinds := [.data, .data, .pinned], laidTests := true, laidLooks := .later }
def InterplayRelationsUptoCardSaid : Prop := Claim7.holds Tryz.pinned (.plain (OpenSpec.upto interplayRelationsSpec)) interplayRelationsUptoCard

/-- THE SECOND FORM's CARD OF 'ablautlaw12.InterplayNear'. -/
def interplayNearUptoCard : Claim7 := { stood := { row := interplayNearUptoRow, standIns := [], harness := (true, "69062e5c7ccca2832924f405734055736dfba32cd417b2390911948f3b3105a8"), looks := true }, kinds := [], alts := [], laidByText := true, laidKinds := [.data, .data, .pinned], laidTests := true, laidLooks := .later }
def InterplayNearUptoCardSaid : Prop := Claim7.holds Tryz.pinned (.plain (OpenSpec.upto interplayNearSpec)) interplayNearUptoCard

/-- THE SECOND FORM's CARD OF 'ablautlaw12.InterplaySwaps'. -/
def interplaySwapsUptoCard : Claim7 := { stood := { row := interplaySwapsUptoRow, standIns := [], harness := (true, "69062e5c7ccca2832924f405734055736dfba32cd417b2390911948f3b3105a8"), looks := true }, kinds := [], alts := [], laidByText := true, laidKinds := [.data, .data, .pinned], laidTests := true, laidLooks := .later }
def InterplaySwapsUptoCardSaid : Prop := Claim7.holds Tryz.pinned (.plain (OpenSpec.upto interplaySwapsSpec)) interplaySwapsUptoCard

/-- THE SECOND FORM's CARD OF 'ablautlaw12.InterplayTwo'. -/
def interplayTwoUptoCard : Claim7 := { stood := { row := interplayTwoUptoRow, standIns := [], harness := (true, "69062e5c7ccca2832924f405734055736dfba32cd417b2390911948f3b3105a8"), looks := true }, kinds := [], alts := [], laidByText := true, laidKinds := [.data, .data, .pinned], laidTests := true, laidLooks := .later }
def InterplayTwoUptoCardSaid : Prop := Claim7.holds Tryz.pinned (.plain (OpenSpec.upto interplayTwoSpec)) interplayTwoUptoCard

/-- THE SECOND FORM's CARD OF 'ablautlaw12.InterplayTables'. -/
def interplayTablesUptoCard : Claim7 := { stood := { row := interplayTablesUptoRow, standIns := [], harness := (true, "69062e5c7ccca2832924f405734055736dfba32cd417b2390911948f3b3105a8"), looks := true }, kinds := [], alts := [], laidByText := true, laidKinds := [.data, .data, .pinned], laidTests := true, laidLooks := .later }
def InterplayTablesUptoCardSaid : Prop := Claim7.holds Tryz.pinned (.plain (OpenSpec.upto interplayTablesSpec)) interplayTablesUptoCard
end Rows
end Go.Proofs.YtgfjlflbhipliaaGreatDoor

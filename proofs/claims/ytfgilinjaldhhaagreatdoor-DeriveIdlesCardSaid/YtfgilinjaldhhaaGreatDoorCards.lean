/-
  DERIVED. GIVEN WITH THE SEED: THE CARDS: each row of YtfgilinjaldhhaaGreatDoorRows.lean that lists a variable, with what it lists TIED to the program's text (the seventh form; the later family's looks); each row that meets fmt, with fmt's text TOLD by the authors' own Lean function (tested against real Go, not proved from fmt's source: count such statements apart). THE CARD IS WHAT COUNTS. Prove the row's statement (the work); the ties are given (YtfgilinjaldhhaaGreatDoorTie.lean); close each card by the builder's one call (the guide's Derived/Test/ToyasCard.lean, 'card_holds'). Laid BY PROGRAM, IN A SANDBOX (cutbox-door.mjs). By AI agents, Wed Nov 11 2026. No macro, syntax, notation, axiom, sorry.
-/
import Derived.Test.YtfgilinjaldhhaaGreatDoorRows
import GoSem.ClaimSeven
namespace Go.Proofs.YtfgilinjaldhhaaGreatDoor
namespace Rows

/-- THE TIED CARD OF 'ablautlaw10.DeriveSplits'. -/
def deriveSplitsCard : Claim7 := { stood := { row := deriveSplitsRow, standIns := [], harness := (true, "0cde074d5bf52caddbf990c5eaea9840d753c8f146da3d1c7d826dd82075fd25"), looks := true }, kinds := [], alts := [], laidByText := true, laidKinds := [.data, .data, .pinned], laidTests := true, laidLooks := .later }
def DeriveSplitsCardSaid : Prop := Claim7.holds Tryz.pinned (.plain (OpenSpec.ofChange deriveSplitsSpec)) deriveSplitsCard

/-- THE TIED CARD OF 'ablautlaw10.DeriveSplit'. -/
def deriveSplitCard : Claim7 := { stood := { row := deriveSplitRow, standIns := [], harness := (true, "0cde074d5bf52caddbf990c5eaea9840d753c8f146da3d1c7d826dd82075fd25"), looks := true }, kinds := [], alts := [], laidByText := true, laidKinds := [.data, .data, .pinned], laidTests := true, laidLooks := .later }
def DeriveSplitCardSaid : Prop := Claim7.holds Tryz.pinned (.plain (OpenSpec.ofChange deriveSplitSpec)) deriveSplitCard

/-- THE TIED CARD OF 'ablautlaw10.DeriveParts'. -/
def derivePartsCard : Claim7 := { stood := { row := derivePartsRow, standIns := [], harness := (true, "0cde074d5bf52caddbf990c5eaea9840d753c8f146da3d1c7d826dd82075fd25"), looks := true }, kinds := [], alts := [], laidByText := true, laidKinds := [.data, .data, .pinned], laidTests := true, laidLooks := .later }
def DerivePartsCardSaid : Prop := Claim7.holds Tryz.pinned (.plain (OpenSpec.ofChange derivePartsSpec)) derivePartsCard

/-- THE TIED CARD OF 'ablautlaw10.DeriveSums'. -/
def deriveSumsCard : Claim7 := { stood := { row := deriveSumsRow, standIns := [], harness := (true, "0cde074d5bf52caddbf990c5eaea9840d753c8f146da3d1c7d826dd82075fd25"), looks := true }, kinds := [], alts := [], laidByText := true, laidKinds := [.data, .data, .pinned], laidTests := true, laidLooks := .later }
def DeriveSumsCardSaid : Prop := Claim7.holds Tryz.pinned (.plain (OpenSpec.ofChange deriveSumsSpec)) deriveSumsCard

/-- THE TIED CARD OF 'ablautlaw10.DeriveLists'. -/
def deriveListsCard : Claim7 := { stood := { row := deriveListsRow, standIns := [], harness := (true, "0cde074d5bf52caddbf990c5eaea9840d753c8f146da3d1c7d826dd82075fd25"), looks := true }, kinds := [], alts := [], laidByText := true, laidKinds := [.data, .data, .pinned], laidTests := true, laidLooks := .later }
def DeriveListsCardSaid : Prop := Claim7.holds Tryz.pinned (.plain (OpenSpec.ofChange deriveListsSpec)) deriveListsCard

/-- THE TIED CARD OF 'ablautlaw10.DeriveSteps'. -/
def deriveStepsCard : Claim7 := { stood := { row := deriveStepsRow, standIns := [], harness := (true, "0cde074d5bf52caddbf990c5eaea9840d753c8f146da3d1c7d826dd82075fd25"), looks := true }, kinds := [], alts := [], laidByText := true, laidKinds := [.data, .data, .pinned], laidTests := true, laidLooks := .later }
def DeriveStepsCardSaid : Prop := Claim7.holds Tryz.pinned (.plain (OpenSpec.ofChange deriveStepsSpec)) deriveStepsCard

/-- THE TIED CARD OF 'ablautlaw10.DeriveCounts'. -/
def deriveCountsCard : Claim7 := { stood := { row := deriveCountsRow, standIns := [], harness := (true, "0cde074d5bf52caddbf990c5eaea9840d753c8f146da3d1c7d826dd82075fd25"), looks := true }, kinds := [], alts := [], laidByText := true, laidKinds := [.data, .data, .pinned], laidTests := true, laidLooks := .later }
def DeriveCountsCardSaid : Prop := Claim7.holds Tryz.pinned (.plain (OpenSpec.ofChange deriveCountsSpec)) deriveCountsCard

/-- THE TIED CARD OF 'ablautlaw10.DeriveIdles'. -/
def deriveIdlesCard : Claim7 := { stood := { row := deriveIdlesRow, standIns := [], harness := (true, "0cde074d5bf52caddbf990c5eaea9840d753c8f146da3d1c7d826dd82075fd25"), looks := true }, kinds := [], alts := [], laidByText := true, laidKinds := [.data, .data, .pinned], laidTests := true, laidLooks := .later }
def DeriveIdlesCardSaid : Prop := Claim7.holds Tryz.pinned (.plain (OpenSpec.ofChange deriveIdlesSpec)) deriveIdlesCard

/-- THE TIED CARD OF 'ablautlaw10.DeriveIdle'. -/
def deriveIdleCard : Claim7 := { stood := { row := deriveIdleRow, standIns := [], harness := (true, "0cde074d5bf52caddbf990c5eaea9840d753c8f146da3d1c7d826dd82075fd25"), looks := true }, kinds := [], alts := [], laidByText := true, laidKinds := [.data, .data, .pinned], laidTests := true, laidLooks := .later }
def DeriveIdleCardSaid : Prop := Claim7.holds Tryz.pinned (.plain (OpenSpec.ofChange deriveIdleSpec)) deriveIdleCard

/-- THE TIED CARD OF 'ablautlaw10.DeriveKnown'. -/
def deriveKnownCard : Claim7 := { stood := { row := deriveKnownRow, standIns := [], harness := (true, "0cde074d5bf52caddbf990c5eaea9840d753c8f146da3d1c7d826dd82075fd25"), looks := true }, kinds := [], alts := [], laidByText := true, laidKinds := [.data, .data, .pinned], laidTests := true, laidLooks := .later }
def DeriveKnownCardSaid : Prop := Claim7.holds Tryz.pinned (.plain (OpenSpec.ofChange deriveKnownSpec)) deriveKnownCard

/-- THE SECOND FORM's CARD OF 'ablautlaw10.DeriveSplits'. -/
def deriveSplitsUptoCard : Claim7 := { stood := { row := deriveSplitsUptoRow, standIns := [], harness := (true, "0cde074d5bf52caddbf990c5eaea9840d753c8f146da3d1c7d826dd82075fd25"), looks := true }, kinds := [], alts := [], laidByText := true, laidKinds := [.data, .data, .pinned], laidTests := true, laidLooks := .later }
def DeriveSplitsUptoCardSaid : Prop := Claim7.holds Tryz.pinned (.plain (OpenSpec.upto deriveSplitsSpec)) deriveSplitsUptoCard

/-- THE SECOND FORM's CARD OF 'ablautlaw10.DeriveSplit'. -/
def deriveSplitUptoCard : Claim7 := { stood := { row := deriveSplitUptoRow, standIns := [], harness := (true, "0cde074d5bf52caddbf990c5eaea9840d753c8f146da3d1c7d826dd82075fd25"), looks := true }, kinds := [], alts := [], laidByText := true, laidKinds := [.data, .data, .pinned], laidTests := true, laidLooks := .later }
def DeriveSplitUptoCardSaid : Prop := Claim7.holds Tryz.pinned (.plain (OpenSpec.upto deriveSplitSpec)) deriveSplitUptoCard

/-- THE SECOND FORM's CARD OF 'ablautlaw10.DeriveParts'. -/
def derivePartsUptoCard : Claim7 := { stood := { row := derivePartsUptoRow, standIns := [], harness := (true, "0cde074d5bf52caddbf990c5eaea9840d753c8f146da3d1c7d826dd82075fd25"), looks := true }, kinds := [], alts := [], laidByText := true, laidKinds := [.data, .data, .pinned], laidTests := true, laidLooks := .later }
def DerivePartsUptoCardSaid : Prop := Claim7.holds Tryz.pinned (.plain (OpenSpec.upto derivePartsSpec)) derivePartsUptoCard

/-- THE SECOND FORM's CARD OF 'ablautlaw10.DeriveSums'. -/
def deriveSumsUptoCard : Claim7 := { stood := { row := deriveSumsUptoRow, standIns := [], harness := (true, "0cde074d5bf52caddbf990c5eaea9840d753c8f146da3d1c7d826dd82075fd25"), looks := true }, kinds := [], alts := [], laidByText := true, laidKinds := [.data, .data, .pinned], laidTests := true, laidLooks := .later }
def DeriveSumsUptoCardSaid : Prop := Claim7.holds Tryz.pinned (.plain (OpenSpec.upto deriveSumsSpec)) deriveSumsUptoCard

/-- THE SECOND FORM's CARD OF 'ablautlaw10.DeriveLists'. -/
def deriveListsUptoCard : Claim7 := { stood := { row := deriveListsUptoRow, standIns := [], harness := (true, "0cde074d5bf52caddbf990c5eaea9840d753c8f146da3d1c7d826dd82075fd25"), looks := true }, kinds := [], alts := [], laidByText := true, laidKinds := [.data, .data, .pinned], laidTests := true, laidLooks := .later }
def DeriveListsUptoCardSaid : Prop := Claim7.holds Tryz.pinned (.plain (OpenSpec.upto deriveListsSpec)) deriveListsUptoCard

/-- THE SECOND FORM's CARD OF 'ablautlaw10.DeriveSteps'. -/
def deriveStepsUptoCard : Claim7 := { stood := { row := deriveStepsUptoRow, standIns := [], harness := (true, "0cde074d5bf52caddbf990c5eaea9840d753c8f146da3d1c7d826dd82075fd25"), looks := true }, kinds := [], alts := [], laidByText := true, laidKinds := [.data, .data, .pinned], laidTests := true, laidLooks := .later }
def DeriveStepsUptoCardSaid : Prop := Claim7.holds Tryz.pinned (.plain (OpenSpec.upto deriveStepsSpec)) deriveStepsUptoCard

/-- THE SECOND FORM's CARD OF 'ablautlaw10.DeriveCounts'. -/
def deriveCountsUptoCard : Claim7 := { stood := { row := deriveCountsUptoRow, standIns := [], harness := (true, "0cde074d5bf52caddbf990c5eaea9840d753c8f146da3d1c7d826dd82075fd25"), looks := true }, kinds := [], alts := [], laidByText := true, laidKinds := [.data, .data, .pinned], laidTests := true, laidLooks := .later }
def DeriveCountsUptoCardSaid : Prop := Claim7.holds Tryz.pinned (.plain (OpenSpec.upto deriveCountsSpec)) deriveCountsUptoCard

/-- THE SECOND FORM's CARD OF 'ablautlaw10.DeriveIdles'. -/
def deriveIdlesUptoCard : Claim7 := { stood := { row := deriveIdlesUptoRow, standIns := [], harness := (true, "0cde074d5bf52caddbf990c5eaea9840d753c8f146da3d1c7d826dd82075fd25"), looks := true }, kinds := [], alts := [], laidByText := true, laidKinds := [.data, .data, .pinned], laidTests := true, laidLooks := .later }
def DeriveIdlesUptoCardSaid : Prop := Claim7.holds Tryz.pinned (.plain (OpenSpec.upto deriveIdlesSpec)) deriveIdlesUptoCard

/-- THE SECOND FORM's CARD OF 'ablautlaw10.DeriveIdle'. -/
def deriveIdleUptoCard : Claim7 := { stood := { row := deriveIdleUptoRow, standIns := [], harness := (true, "0cde074d5bf52caddbf990c5eaea9840d753c8f146da3d1c7d826dd82075fd25"), looks := true }, kinds := [], alts := [], laidByText := true, laidKinds := [.data, .data, .pinned], laidTests := true, laidLooks := .later }
def DeriveIdleUptoCardSaid : Prop := Claim7.holds Tryz.pinned (.plain (OpenSpec.upto deriveIdleSpec)) deriveIdleUptoCard

/-- THE SECOND FORM's CARD OF 'ablautlaw10.DeriveKnown'. -/
def deriveKnownUptoCard : Claim7 := { stood := { row := deriveKnownUptoRow, standIns := [], harness := (true, "0cde074d5bf52caddbf990c5eaea9840d753c8f146da3d1c7d826dd82075fd25"), looks := true }, kinds := [], alts := [], laidByText := true, laidKinds := [.data, .data, .pinned], laidTests := true, laidLooks := .later }
def DeriveKnownUptoCardSaid : Prop := Claim7.holds Tryz.pinned (.plain (OpenSpec.upto deriveKnownSpec)) deriveKnownUptoCard
end Rows
end Go.Proofs.YtfgilinjaldhhaaGreatDoor

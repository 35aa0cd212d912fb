/-
  DERIVED. GIVEN WITH THE SEED: THE CARDS: each row of YtlgliddhideflaaGreatDoorRows.lean that lists a variable, with what it lists TIED to the program's text (the seventh form; the later family's looks); each row that meets fmt, with fmt's text TOLD by the authors' own Lean function (tested against real Go, not proved from fmt's source: count such statements apart). THE CARD IS WHAT COUNTS. Prove the row's statement (the work); the ties are given (YtlgliddhideflaaGreatDoorTie.lean); close each card by the builder's one call (the guide's Derived/Test/ToyasCard.lean, 'card_holds'). Laid BY PROGRAM, IN A SANDBOX (cutbox-door.mjs). By AI agents, Wed Nov 11 2026. No macro, syntax, notation, axiom, sorry.
-/
import Derived.Test.YtlgliddhideflaaGreatDoorRows
import GoSem.ClaimSeven
namespace Go.Proofs.YtlgliddhideflaaGreatDoor
namespace Rows

/-- THE TIED CARD OF 'ablautlaw10.DeriveKnown'. -/
def deriveKnownCard : Claim7 := { stood := { row := deriveKnownRow, standIns := [], harness := (true, "778631d2666f4d4dbc68f712c5eacee8e7ce098a3a336136d14bcb98164a4eee"), looks := true }, kinds := [], alts := [], laidByText := true, laidKinds := [.data, .data, .pinned], laidTests := true, laidLooks := .later }
def DeriveKnownCardSaid : Prop := Claim7.holds Tryz.pinned (.plain (OpenSpec.ofChange deriveKnownSpec)) deriveKnownCard

/-- THE TIED CARD OF 'ablautlaw29.ParadigmKnown'. -/
def paradigmKnownCard : Claim7 := { stood := { row := paradigmKnownRow, standIns := [], harness := (true, "778631d2666f4d4dbc68f712c5eacee8e7ce098a3a336136d14bcb98164a4eee"), looks := true }, kinds := [], alts := [], laidByText := true, laidKinds := [.data, .data, .pinned], laidTests := true, laidLooks := .later }
def ParadigmKnownCardSaid : Prop := Claim7.holds Tryz.pinned (.plain (OpenSpec.ofChange paradigmKnownSpec)) paradigmKnownCard

/-- THE TIED CARD OF 'ablautlaw11.InverseBacks'. -/
def inverseBacksCard : Claim7 := { stood := { row := inverseBacksRow, standIns := [], harness := (true, "778631d2666f4d4dbc68f712c5eacee8e7ce098a3a336136d14bcb98164a4eee"), looks := true }, kinds := [], alts := [], laidByText := true, laidKinds := [.data, .data, .pinned], laidTests := true, laidLooks := .later }
def InverseBacksCardSaid : Prop := Claim7.holds Tryz.pinned (.plain (OpenSpec.ofChange inverseBacksSpec)) inverseBacksCard

/-- THE TIED CARD OF 'ablautlaw11.InverseImages'. -/
def inverseImagesCard : Claim7 := { stood := { row := inverseImagesRow, standIns := [], harness := (true, "778631d2666f4d4dbc68f712c5eacee8e7ce098a3a336136d14bcb98164a4eee"), looks := true }, kinds := [], alts := [], laidByText := true, laidKinds := [.data, .data, .pinned], laidTests := true, laidLooks := .later }
def InverseImagesCardSaid : Prop := Claim7.holds Tryz.pinned (.plain (OpenSpec.ofChange inverseImagesSpec)) inverseImagesCard

/-- THE TIED CARD OF 'ablautlaw11.InverseFixes'. -/
def inverseFixesCard : Claim7 := { stood := { row := inverseFixesRow, standIns := [], harness := (true, "778631d2666f4d4dbc68f712c5eacee8e7ce098a3a336136d14bcb98164a4eee"), looks := true }, kinds := [], alts := [], laidByText := true, laidKinds := [.data, .data, .pinned], laidTests := true, laidLooks := .later }
def InverseFixesCardSaid : Prop := Claim7.holds Tryz.pinned (.plain (OpenSpec.ofChange inverseFixesSpec)) inverseFixesCard

/-- THE TIED CARD OF 'ablautlaw11.InverseLoses'. -/
def inverseLosesCard : Claim7 := { stood := { row := inverseLosesRow, standIns := [], harness := (true, "778631d2666f4d4dbc68f712c5eacee8e7ce098a3a336136d14bcb98164a4eee"), looks := true }, kinds := [], alts := [], laidByText := true, laidKinds := [.data, .data, .pinned], laidTests := true, laidLooks := .later }
def InverseLosesCardSaid : Prop := Claim7.holds Tryz.pinned (.plain (OpenSpec.ofChange inverseLosesSpec)) inverseLosesCard

/-- THE TIED CARD OF 'ablautlaw11.InverseFixed'. -/
def inverseFixedCard : Claim7 := { stood := { row := inverseFixedRow, standIns := [], harness := (true, "778631d2666f4d4dbc68f712c5eacee8e7ce098a3a336136d14bcb98164a4eee"), looks := true }, kinds := [], alts := [], laidByText := true, laidKinds := [.data, .data, .pinned], laidTests := true, laidLooks := .later }
def InverseFixedCardSaid : Prop := Claim7.holds Tryz.pinned (.plain (OpenSpec.ofChange inverseFixedSpec)) inverseFixedCard

/-- THE TIED CARD OF 'ablautlaw11.InverseAlls'. -/
def inverseAllsCard : Claim7 := { stood := { row := inverseAllsRow, standIns := [], harness := (true, "778631d2666f4d4dbc68f712c5eacee8e7ce098a3a336136d14bcb98164a4eee"), looks := true }, kinds := [], alts := [], laidByText := true, laidKinds := [.data, .data, .pinned], laidTests := true, laidLooks := .later }
def InverseAllsCardSaid : Prop := Claim7.holds Tryz.pinned (.plain (OpenSpec.ofChange inverseAllsSpec)) inverseAllsCard

/-- THE TIED CARD OF 'ablautlaw11.InverseThere'. -/
def inverseThereCard : Claim7 := { stood := { row := inverseThereRow, standIns := [], harness := (true, "778631d2666f4d4dbc68f712c5eacee8e7ce098a3a336136d14bcb98164a4eee"), looks := true }, kinds := [], alts := [], laidByText := true, laidKinds := [.data, .data, .pinned], laidTests := true, laidLooks := .later }
def InverseThereCardSaid : Prop := Claim7.holds Tryz.pinned (.plain (OpenSpec.ofChange inverseThereSpec)) inverseThereCard

/-- THE TIED CARD OF 'ablautlaw11.InverseNothing'. -/
def inverseNothingCard : Claim7 := { stood := { row := inverseNothingRow, standIns := [], harness := (true, "778631d2666f4d4dbc68f712c5eacee8e7ce098a3a336136d14bcb98164a4eee"), looks := true }, kinds := [], alts := [], laidByText := true, laidKinds := [.data, .data, .pinned], laidTests := true, laidLooks := .later }
def InverseNothingCardSaid : Prop := Claim7.holds Tryz.pinned (.plain (OpenSpec.ofChange inverseNothingSpec)) inverseNothingCard

/-- THE TIED CARD OF 'ablautlaw11.InverseBackAgain'. -/
def inverseBackAgainCard : Claim7 := { stood := { row := inverseBackAgainRow, standIns := [], harness := (true, "778631d2666f4d4dbc68f712c5eacee8e7ce098a3a336136d14bcb98164a4eee"), looks := true }, kinds := [], alts := [], laidByText := true, laidKinds := [.data, .data, .pinned], laidTests := true, laidLooks := .later }
def InverseBackAgainCardSaid : Prop := Claim7.holds Tryz.pinned (.plain (OpenSpec.ofChange inverseBackAgainSpec)) inverseBackAgainCard

/-- THE TIED CARD OF 'ablautlaw11.InverseRefuses'. -/
def inverseRefusesCard : Claim7 := { stood := { row := inverseRefusesRow, standIns := [], harness := (true, "778631d2666f4d4dbc68f712c5eacee8e7ce098a3a336136d14bcb98164a4eee"), looks := true }, kinds := [], alts := [], laidByText := true, laidKinds := [.data, .data, .pinned], laidTests := true, laidLooks := .later }
def InverseRefusesCardSaid : Prop := Claim7.holds Tryz.pinned (.plain (OpenSpec.ofChange inverseRefusesSpec)) inverseRefusesCard

/-- THE SECOND FORM's CARD OF 'ablautlaw10.DeriveKnown'. -/
def deriveKnownUptoCard : Claim7 := { stood := { row := deriveKnownUptoRow, standIns := [], harness := (true, "778631d2666f4d4dbc68f712c5eacee8e7ce098a3a336136d14bcb98164a4eee"), looks := true }, kinds := [], alts := [], laidByText := true, laidKinds := [.data, .data, .pinned], laidTests := true, laidLooks := .later }
def DeriveKnownUptoCardSaid : Prop := Claim7.holds Tryz.pinned (.plain (OpenSpec.upto deriveKnownSpec)) deriveKnownUptoCard

/-- THE SECOND FORM's CARD OF 'ablautlaw29.ParadigmKnown'. -/
def paradigmKnownUptoCard : Claim7 := { stood := { row := paradigmKnownUptoRow, standIns := [], harness := (true, "778631d2666f4d4dbc68f712c5eacee8e7ce098a3a336136d14bcb98164a4eee"), looks := true }, kinds := [], alts := [], laidByText := true, laidKinds := [.data, .data, .pinned], laidTests := true, laidLooks := .later }
def ParadigmKnownUptoCardSaid : Prop := Claim7.holds Tryz.pinned (.plain (OpenSpec.upto paradigmKnownSpec)) paradigmKnownUptoCard

/-- THE SECOND FORM's CARD OF 'ablautlaw11.InverseBacks'. -/
def inverseBacksUptoCard : Claim7 := { stood := { row := inverseBacksUptoRow, standIns := [], harness := (true, "778631d2666f4d4dbc68f712c5eacee8e7ce098a3a336136d14bcb98164a4eee"), looks := true }, kinds := [], alts := [], laidByText := true, laidKinds := [.data, .data, .pinned], laidTests := true, laidLooks := .later }
def InverseBacksUptoCardSaid : Prop := Claim7.holds Tryz.pinned (.plain (OpenSpec.upto inverseBacksSpec)) inverseBacksUptoCard

/-- THE SECOND FORM's CARD OF 'ablautlaw11.InverseImages'. -/
def inverseImagesUptoCard : Claim7 := { stood := { row := inverseImagesUptoRow, standIns := [], harness := (true, "778631d2666f4d4dbc68f712c5eacee8e7ce098a3a336136d14bcb98164a4eee"), looks := true }, kinds := [], alts := [], laidByText := true, laidKinds := [.data, .data, .pinned], laidTests := true, laidLooks := .later }
def InverseImagesUptoCardSaid : Prop := Claim7.holds Tryz.pinned (.plain (OpenSpec.upto inverseImagesSpec)) inverseImagesUptoCard

/-- THE SECOND FORM's CARD OF 'ablautlaw11.InverseFixes'. -/
def inverseFixesUptoCard : Claim7 := { stood := { row := inverseFixesUptoRow, standIns := [], harness := (true, "778631d2666f4d4dbc68f712c5eacee8e7ce098a3a336136d14bcb98164a4eee"), looks := true }, kinds := [], alts := [], laidByText := true, laidKinds := [.data, .data, .pinned], laidTests := true, laidLooks := .later }
def InverseFixesUptoCardSaid : Prop := Claim7.holds Tryz.pinned (.plain (OpenSpec.upto inverseFixesSpec)) inverseFixesUptoCard

/-- THE SECOND FORM's CARD OF 'ablautlaw11.InverseLoses'. -/
def inverseLosesUptoCard : Claim7 := { stood := { row := inverseLosesUptoRow, standIns := [], harness := (true, "778631d2666f4d4dbc68f712c5eacee8e7ce098a3a336136d14bcb98164a4eee"), looks := true }, kinds := [], alts := [], laidByText := true, laidKinds := [.data, .data, .pinned], laidTests := true, laidLooks := .later }
def InverseLosesUptoCardSaid : Prop := Claim7.holds Tryz.pinned (.plain (OpenSpec.upto inverseLosesSpec)) inverseLosesUptoCard

/-- THE SECOND FORM's CARD OF 'ablautlaw11.InverseFixed'. -/
def inverseFixedUptoCard : Claim7 := { stood := { row := inverseFixedUptoRow, standIns := [], harness := (true, "778631d2666f4d4dbc68f712c5eacee8e7ce098a3a336136d14bcb98164a4eee"), looks := true }, kinds := [], alts := [], laidByText := true, laidKinds := [.data, .data, .pinned], laidTests := true, laidLooks := .later }
def InverseFixedUptoCardSaid : Prop := Claim7.holds Tryz.pinned (.plain (OpenSpec.upto inverseFixedSpec)) inverseFixedUptoCard

/-- THE SECOND FORM's CARD OF 'ablautlaw11.InverseAlls'. -/
def inverseAllsUptoCard : Claim7 := { stood := { row := inverseAllsUptoRow, standIns := [], harness := (true, "778631d2666f4d4dbc68f712c5eacee8e7ce098a3a336136d14bcb98164a4eee"), looks := true }, kinds := [], alts := [], laidByText := true, laidKinds := [.data, .data, .pinned], laidTests := true, laidLooks := .later }
def InverseAllsUptoCardSaid : Prop := Claim7.holds Tryz.pinned (.plain (OpenSpec.upto inverseAllsSpec)) inverseAllsUptoCard

/-- THE SECOND FORM's CARD OF 'ablautlaw11.InverseThere'. -/
def inverseThereUptoCard : Claim7 := { stood := { row := inverseThereUptoRow, standIns := [], harness := (true, "778631d2666f4d4dbc68f712c5eacee8e7ce098a3a336136d14bcb98164a4eee"), looks := true }, kinds := [], alts := [], laidByText := true, laidKinds := [.data, .data, .pinned], laidTests := true, laidLooks := .later }
def InverseThereUptoCardSaid : Prop := Claim7.holds Tryz.pinned (.plain (OpenSpec.upto inverseThereSpec)) inverseThereUptoCard

/-- THE SECOND FORM's CARD OF 'ablautlaw11.InverseNothing'. -/
def inverseNothingUptoCard : Claim7 := { stood := { row := inverseNothingUptoRow, standIns := [], harness := (true, "778631d2666f4d4dbc68f712c5eacee8e7ce098a3a336136d14bcb98164a4eee"), looks := true }, kinds := [], alts := [], laidByText := true, laidKinds := [.data, .data, .pinned], laidTests := true, laidLooks := .later }
def InverseNothingUptoCardSaid : Prop := Claim7.holds Tryz.pinned (.plain (OpenSpec.upto inverseNothingSpec)) inverseNothingUptoCard

/-- THE SECOND FORM's CARD OF 'ablautlaw11.InverseBackAgain'. -/
def inverseBackAgainUptoCard : Claim7 := { stood := { row := inverseBackAgainUptoRow, standIns := [], harness := (true, "778631d2666f4d4dbc68f712c5eacee8e7ce098a3a336136d14bcb98164a4eee"), looks := true }, kinds := [], alts := [], laidByText := true, laidKinds := [.data, .data, .pinned], laidTests := true, laidLooks := .later }
def InverseBackAgainUptoCardSaid : Prop := Claim7.holds Tryz.pinned (.plain (OpenSpec.upto inverseBackAgainSpec)) inverseBackAgainUptoCard

/-- THE SECOND FORM's CARD OF 'ablautlaw11.InverseRefuses'. -/
def inverseRefusesUptoCard : Claim7 := { stood := { row := inverseRefusesUptoRow, standIns := [], harness := (true, "778631d2666f4d4dbc68f712c5eacee8e7ce098a3a336136d14bcb98164a4eee"), looks := true }, kinds := [], alts := [], laidByText := true, laidKinds := [.data, .data, .pinned], laidTests := true, laidLooks := .later }
def InverseRefusesUptoCardSaid : Prop := Claim7.holds Tryz.pinned (.plain (OpenSpec.upto inverseRefusesSpec)) inverseRefusesUptoCard
end Rows
end Go.Proofs.YtlgliddhideflaaGreatDoor

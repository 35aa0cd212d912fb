/-
  DERIVED. GIVEN WITH THE SEED: THE CARDS: each row of YtaglfmlgbcmakaaGreatDoorRows.lean that lists a variable, with what it lists TIED to the program's text (the seventh form; the later family's looks); each row that meets fmt, with fmt's text TOLD by the authors' own Lean function (tested against real Go, not proved from fmt's source: count such statements apart). THE CARD IS WHAT COUNTS. Prove the row's statement (the work); the ties are given (YtaglfmlgbcmakaaGreatDoorTie.lean); close each card by the builder's one call (the guide's Derived/Test/ToyasCard.lean, 'card_holds'). Laid BY PROGRAM, IN A SANDBOX (cutbox-door.mjs). By AI agents, Wed Nov 11 2026. No macro, syntax, notation, axiom, sorry.
-/
import Derived.Test.YtaglfmlgbcmakaaGreatDoorRows
import GoSem.ClaimSeven
namespace Go.Proofs.YtaglfmlgbcmakaaGreatDoor
namespace Rows

/-- THE TIED CARD OF 'ablauttop.TopWaves'. -/
def topWavesCard : Claim7 := { stood := { row := topWavesRow, standIns := [], harness := (true, "f30b30b9fc6bb646518b976e08faf1646f838a3b877a094890f96f3870e486ac"), looks := true }, kinds := [], alts := [], laidByText := true, laidKinds := [.data, .data, .pinned], laidTests := true, laidLooks := .later }
def TopWavesCardSaid : Prop := Claim7.holds Tryz.pinned (.plain (OpenSpec.ofChange topWavesSpec)) topWavesCard

/-- THE TIED CARD OF 'ablauttop.TopIsoglosses'. -/
def topIsoglossesCard : Claim7 := { stood := { row := topIsoglossesRow, standIns := [], harness := (true, "f30b30b9fc6bb646518b976e08faf1646f838a3b877a094890f96f3870e486ac"), looks := true }, kinds := [], alts := [], laidByText := true, laidKinds := [.data, .data, .pinned], laidTests := true, laidLooks := .later }
def TopIsoglossesCardSaid : Prop := Claim7.holds Tryz.pinned (.plain (OpenSpec.ofChange topIsoglossesSpec)) topIsoglossesCard

/-- THE TIED CARD OF 'ablautlaw38.WaveLines'. -/
def waveLinesCard : Claim7 := { stood := { row := waveLinesRow, standIns := [], harness := (true, "f30b30b9fc6bb646518b976e08faf1646f838a3b877a094890f96f3870e486ac"), looks := true }, kinds := [], alts := [], laidByText := true, laidKinds := [.data, .data, .pinned], laidTests := true, laidLooks := .later }
def WaveLinesCardSaid : Prop := Claim7.holds Tryz.pinned (.plain (OpenSpec.ofChange waveLinesSpec)) waveLinesCard

/-- THE TIED CARD OF 'ablautlaw38.WaveCrosses'. -/
def waveCrossesCard : Claim7 := { stood := { row := waveCrossesRow, standIns := [], harness := (true, "f30b30b9fc6bb646518b976e08faf1646f838a3b877a094890f96f3870e486ac"), looks := true }, kinds := [], alts := [], laidByText := true, laidKinds := [.data, .data, .pinned], laidTests := true, laidLooks := .later }
def WaveCrossesCardSaid : Prop := Claim7.holds Tryz.pinned (.plain (OpenSpec.ofChange waveCrossesSpec)) waveCrossesCard

/-- THE TIED CARD OF 'ablautlaw38.WaveGrows'. -/
def waveGrowsCard : Claim7 := { stood := { row := waveGrowsRow, standIns := [], harness := (true, "f30b30b9fc6bb646518b976e08faf1646f838a3b877a094890f96f3870e486ac"), looks := true }, kinds := [], alts := [], laidByText := true, laidKinds := [.data, .data, .pinned], laidTests := true, laidLooks := .later }
def WaveGrowsCardSaid : Prop := Claim7.holds Tryz.pinned (.plain (OpenSpec.ofChange waveGrowsSpec)) waveGrowsCard

/-- THE TIED CARD OF 'ablautlaw38.WaveOrders'. -/
def waveOrdersCard : Claim7 := { stood := { row := waveOrdersRow, standIns := [], harness := (true, "f30b30b9fc6bb646518b976e08faf1646f838a3b877a094890f96f3870e486ac"), looks := true }, kinds := [], alts := [], laidByText := true, laidKinds := [.data, .data, .pinned], laidTests := true, laidLooks := .later }
def WaveOrdersCardSaid : Prop := Claim7.holds Tryz.pinned (.plain (OpenSpec.ofChange waveOrdersSpec)) waveOrdersCard

/-- THE TIED CARD OF 'ablautlaw38.WaveStarts'. -/
def waveStartsCard : Claim7 := { stood := { row := waveStartsRow, standIns := [], harness := (true, "f30b30b9fc6bb646518b976e08faf1646f838a3b877a094890f96f3870e486ac"), looks := true }, kinds := [], alts := [], laidByText := true, laidKinds := [.data, .data, .pinned], laidTests := true, laidLooks := .later }
def WaveStartsCardSaid : Prop := Claim7.holds Tryz.pinned (.plain (OpenSpec.ofChange waveStartsSpec)) waveStartsCard

/-- THE TIED CARD OF 'ablautlaw38.WaveArrives'. -/
def waveArrivesCard : Claim7 := { stood := { row := waveArrivesRow, standIns := [], harness := (true, "f30b30b9fc6bb646518b976e08faf1646f838a3b877a094890f96f3870e486ac"), looks := true }, kinds := [], alts := [], laidByText := true, laidKinds := [.data, .data, .pinned], laidTests := true, laidLooks := .later }
def WaveArrivesCardSaid : Prop := Claim7.holds Tryz.pinned (.plain (OpenSpec.ofChange waveArrivesSpec)) waveArrivesCard

/-- THE TIED CARD OF 'ablautlaw38.WaveNearest'. -/
def waveNearestCard : Claim7 := { stood := { row := waveNearestRow, standIns := [], harness := (true, "f30b30b9fc6bb646518b976e08faf1646f838a3b877a094890f96f3870e486ac"), looks := true }, kinds := [], alts := [], laidByText := true, laidKinds := [.data, .data, .pinned], laidTests := true, laidLooks := .later }
def WaveNearestCardSaid : Prop := Claim7.holds Tryz.pinned (.plain (OpenSpec.ofChange waveNearestSpec)) waveNearestCard

/-- THE TIED CARD OF 'ablautlaw38.WaveForms'. -/
def waveFormsCard : Claim7 := { stood := { row := waveFormsRow, standIns := [], harness := (true, "f30b30b9fc6bb646518b976e08faf1646f838a3b877a094890f96f3870e486ac"), looks := true }, kinds := [], alts := [], laidByText := true, laidKinds := [.data, .data, .pinned], laidTests := true, laidLooks := .later }
def WaveFormsCardSaid : Prop := Claim7.holds Tryz.pinned (.plain (OpenSpec.ofChange waveFormsSpec)) waveFormsCard

/-- THE TIED CARD OF 'ablautlaw38.WaveDerives'. -/
def waveDerivesCard : Claim7 := { stood := { row := waveDerivesRow, standIns := [], harness := (true, "f30b30b9fc6bb646518b976e08faf1646f838a3b877a094890f96f3870e486ac"), looks := true }, kinds := [], alts := [], laidByText := true, laidKinds := [.data, .data, .pinned], laidTests := true, laidLooks := .later }
def WaveDerivesCardSaid : Prop := Claim7.holds Tryz.pinned (.plain (OpenSpec.ofChange waveDerivesSpec)) waveDerivesCard

/-- THE TIED CARD OF 'ablautlaw38.WaveKnown'. -/
def waveKnownCard : Claim7 := { stood := { row := waveKnownRow, standIns := [], harness := (true, "f30b30b9fc6bb646518b976e08faf1646f838a3b877a094890f96f3870e486ac"), looks := true }, kinds := [], alts := [], laidByText := true, laidKinds := [.data, .data, .pinned], laidTests := true, laidLooks := .later }
def WaveKnownCardSaid : Prop := Claim7.holds Tryz.pinned (.plain (OpenSpec.ofChange waveKnownSpec)) waveKnownCard

/-- THE SECOND FORM's CARD OF 'ablauttop.TopWaves'. -/
def topWavesUptoCard : Claim7 := { stood := { row := topWavesUptoRow, standIns := [], harness := (true, "f30b30b9fc6bb646518b976e08faf1646f838a3b877a094890f96f3870e486ac"), looks := true }, kinds := [], alts := [], laidByText := true, laidKinds := [.data, .data, .pinned], laidTests := true, laidLooks := .later }
def TopWavesUptoCardSaid : Prop := Claim7.holds Tryz.pinned (.plain (OpenSpec.upto topWavesSpec)) topWavesUptoCard

/-- THE SECOND FORM's CARD OF 'ablauttop.TopIsoglosses'. -/
def topIsoglossesUptoCard : Claim7 := { stood := { row := topIsoglossesUptoRow, standIns := [], harness := (true, "f30b30b9fc6bb646518b976e08faf1646f838a3b877a094890f96f3870e486ac"), looks := true }, kinds := [], alts := [], laidByText := true, laidKinds := [.data, .data, .pinned], laidTests := true, laidLooks := .later }
def TopIsoglossesUptoCardSaid : Prop := Claim7.holds Tryz.pinned (.plain (OpenSpec.upto topIsoglossesSpec)) topIsoglossesUptoCard

/-- THE SECOND FORM's CARD OF 'ablautlaw38.WaveLines'. -/
def waveLinesUptoCard : Claim7 := { stood := { row := waveLinesUptoRow, standIns := [], harness := (true, "f30b30b9fc6bb646518b976e08faf1646f838a3b877a094890f96f3870e486ac"), looks := true }, kinds := [], alts := [], laidByText := true, laidKinds := [.data, .data, .pinned], laidTests := true, laidLooks := .later }
def WaveLinesUptoCardSaid : Prop := Claim7.holds Tryz.pinned (.plain (OpenSpec.upto waveLinesSpec)) waveLinesUptoCard

/-- THE SECOND FORM's CARD OF 'ablautlaw38.WaveCrosses'. -/
def waveCrossesUptoCard : Claim7 := { stood := { row := waveCrossesUptoRow, standIns := [], harness := (true, "f30b30b9fc6bb646518b976e08faf1646f838a3b877a094890f96f3870e486ac"), looks := true }, kinds := [], alts := [], laidByText := true, laidKinds := [.data, .data, .pinned], laidTests := true, laidLooks := .later }
def WaveCrossesUptoCardSaid : Prop := Claim7.holds Tryz.pinned (.plain (OpenSpec.upto waveCrossesSpec)) waveCrossesUptoCard

/-- THE SECOND FORM's CARD OF 'ablautlaw38.WaveGrows'. -/
def waveGrowsUptoCard : Claim7 := { stood := { row := waveGrowsUptoRow, standIns := [], harness := (true, "f30b30b9fc6bb646518b976e08faf1646f838a3b877a094890f96f3870e486ac"), looks := true }, kinds := [], alts := [], laidByText := true, laidKinds := [.data, .data, .pinned], laidTests := true, laidLooks := .later }
def WaveGrowsUptoCardSaid : Prop := Claim7.holds Tryz.pinned (.plain (OpenSpec.upto waveGrowsSpec)) waveGrowsUptoCard

/-- THE SECOND FORM's CARD OF 'ablautlaw38.WaveOrders'. -/
def waveOrdersUptoCard : Claim7 := { stood := { row := waveOrdersUptoRow, standIns := [], harness := (true, "f30b30b9fc6bb646518b976e08faf1646f838a3b877a094890f96f3870e486ac"), looks := true }, kinds := [], alts := [], laidByText := true, laidKinds := [.data, .data, .pinned], laidTests := true, laidLooks := .later }
def WaveOrdersUptoCardSaid : Prop := Claim7.holds Tryz.pinned (.plain (OpenSpec.upto waveOrdersSpec)) waveOrdersUptoCard

/-- THE SECOND FORM's CARD OF 'ablautlaw38.WaveStarts'. -/
def waveStartsUptoCard : Claim7 := { stood := { row := waveStartsUptoRow, standIns := [], harness := (true, "f30b30b9fc6bb646518b976e08faf1646f838a3b877a094890f96f3870e486ac"), looks := true }, kinds := [], alts := [], laidByText := true, laidKinds := [.data, .data, .pinned], laidTests := true, laidLooks := .later }
def WaveStartsUptoCardSaid : Prop := Claim7.holds Tryz.pinned (.plain (OpenSpec.upto waveStartsSpec)) waveStartsUptoCard

/-- THE SECOND FORM's CARD OF 'ablautlaw38.WaveArrives'. -/
def waveArrivesUptoCard : Claim7 := { stood := { row := waveArrivesUptoRow, standIns := [], harness := (true, "f30b30b9fc6bb646518b976e08faf1646f838a3b877a094890f96f3870e486ac"), looks := true }, kinds := [], alts := [], laidByText := true, laidKinds := [.data, .data, .pinned], laidTests := true, laidLooks := .later }
def WaveArrivesUptoCardSaid : Prop := Claim7.holds Tryz.pinned (.plain (OpenSpec.upto waveArrivesSpec)) waveArrivesUptoCard

/-- THE SECOND FORM's CARD OF 'ablautlaw38.WaveNearest'. -/
def waveNearestUptoCard : Claim7 := { stood := { row := waveNearestUptoRow, standIns := [], harness := (true, "f30b30b9fc6bb646518b976e08faf1646f838a3b877a094890f96f3870e486ac"), looks := true }, kinds := [], alts := [], laidByText := true, laidKinds := [.data, .data, .pinned], laidTests := true, laidLooks := .later }
def WaveNearestUptoCardSaid : Prop := Claim7.holds Tryz.pinned (.plain (OpenSpec.upto waveNearestSpec)) waveNearestUptoCard

/-- THE SECOND FORM's CARD OF 'ablautlaw38.WaveForms'. -/
def waveFormsUptoCard : Claim7 := { stood := { row := waveFormsUptoRow, standIns := [], harness := (true, "f30b30b9fc6bb646518b976e08faf1646f838a3b877a094890f96f3870e486ac"), looks := true }, kinds := [], alts := [], laidByText := true, laidKinds := [.data, .data, .pinned], laidTests := true, laidLooks := .later }
def WaveFormsUptoCardSaid : Prop := Claim7.holds Tryz.pinned (.plain (OpenSpec.upto waveFormsSpec)) waveFormsUptoCard

/-- THE SECOND FORM's CARD OF 'ablautlaw38.WaveDerives'. -/
def waveDerivesUptoCard : Claim7 := { stood := { row := waveDerivesUptoRow, standIns := [], harness := (true, "f30b30b9fc6bb646518b976e08faf1646f838a3b877a094890f96f3870e486ac"), looks := true }, kinds := [], alts := [], laidByText := true, laidKinds := [.data, .data, .pinned], laidTests := true, laidLooks := .later }
def WaveDerivesUptoCardSaid : Prop := Claim7.holds Tryz.pinned (.plain (OpenSpec.upto waveDerivesSpec)) waveDerivesUptoCard

/-- THE SECOND FORM's CARD OF 'ablautlaw38.WaveKnown'. -/
def waveKnownUptoCard : Claim7 := { stood := { row := waveKnownUptoRow, standIns := [], harness := (true, "f30b30b9fc6bb646518b976e08faf1646f838a3b877a094890f96f3870e486ac"), looks := true }, kinds := [], alts := [], laidByText := true, laidKinds := [.data, .data, .pinned], laidTests := true, laidLooks := .later }
def WaveKnownUptoCardSaid : Prop := Claim7.holds Tryz.pinned (.plain (OpenSpec.upto waveKnownSpec)) waveKnownUptoCard
end Rows
end Go.Proofs.YtaglfmlgbcmakaaGreatDoor

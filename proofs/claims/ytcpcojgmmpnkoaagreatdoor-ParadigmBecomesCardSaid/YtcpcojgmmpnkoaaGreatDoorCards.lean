/-
  DERIVED. GIVEN WITH THE SEED: THE CARDS: each row of YtcpcojgmmpnkoaaGreatDoorRows.lean that lists a variable, with what it lists TIED to the program's text (the seventh form; the later family's looks); each row that meets fmt, with fmt's text TOLD by the authors' own Lean function (tested against real Go, not proved from fmt's source: count such statements apart). THE CARD IS WHAT COUNTS. Prove the row's statement (the work); the ties are given (YtcpcojgmmpnkoaaGreatDoorTie.lean); close each card by the builder's one call (the guide's Derived/Test/ToyasCard.lean, 'card_holds'). Laid BY PROGRAM, IN A SANDBOX (cutbox-door.mjs). By AI agents, Wed Nov 11 2026. No macro, syntax, notation, axiom, sorry.
-/
import Derived.Test.YtcpcojgmmpnkoaaGreatDoorRows
import GoSem.ClaimSeven
namespace Go.Proofs.YtcpcojgmmpnkoaaGreatDoor
namespace Rows

/-- THE TIED CARD OF 'ablautlaw10.DeriveKnown'. -/
def deriveKnownCard : Claim7 := { stood := { row := deriveKnownRow, standIns := [], harness := (true, "657460d1287f3025a9464dad3e75abd267371ba53d8c3de63bb8e6e2a33353f1"), looks := true }, kinds := [], alts := [], laidByText := true, laidKinds := [.data, .data, .pinned], laidTests := true, laidLooks := .later }
def DeriveKnownCardSaid : Prop := Claim7.holds Tryz.pinned (.plain (OpenSpec.ofChange deriveKnownSpec)) deriveKnownCard

/-- THE TIED CARD OF 'ablautlaw12.InterplayRelations'. -/
def interplayRelationsCard : Claim7 := { stood := { row := interplayRelationsRow, standIns := [], harness := (true, "657460d1287f3025a9464dad3e75abd267371ba53d8c3de63bb8e6e2a33353f1"), looks := true }, kinds := [], alts := [], laidByText := true, laidKinds := [.data, .data, .pinned], laidTests := true, laidLooks := .later }
def InterplayRelationsCardSaid : Prop := Claim7.holds Tryz.pinned (.plain (OpenSpec.ofChange interplayRelationsSpec)) interplayRelationsCard

/-- THE TIED CARD OF 'ablautlaw12.InterplayTables'. -/
def interplayTablesCard : Claim7 := { stood := { row := interplayTablesRow, standIns := [], harness := (true, "657460d1287f3025a9464dad3e75abd267371ba53d8c3de63bb8e6e2a33353f1"), looks := true }, kinds := [], alts := [], laidByText := true, laidKinds := [.data, .data, .pinned], laidTests := true, laidLooks := .later }
def InterplayTablesCardSaid : Prop := Claim7.holds Tryz.pinned (.plain (OpenSpec.ofChange interplayTablesSpec)) interplayTablesCard

/-- THE TIED CARD OF 'ablautlaw29.ParadigmStems'. -/
def paradigmStemsCard : Claim7 := { stood := { row := paradigmStemsRow, standIns := [], harness := (true, "657460d1287f3025a9464dad3e75abd267371ba53d8c3de63bb8e6e2a33353f1"), looks := true }, kinds := [], alts := [], laidByText := true, laidKinds := [.data, .data, .pinned], laidTests := true, laidLooks := .later }
def ParadigmStemsCardSaid : Prop := Claim7.holds Tryz.pinned (.plain (OpenSpec.ofChange paradigmStemsSpec)) paradigmStemsCard

/-- THE TIED CARD OF 'ablautlaw29.ParadigmLabels'. -/
def paradigmLabelsCard : Claim7 := { stood := { row := paradigmLabelsRow, standIns := [], harness := (true, "657460d1287f3025a9464dad3e75abd267371ba53d8c3de63bb8e6e2a33353f1"), looks := true }, kinds := [], alts := [], laidByText := true, laidKinds := [.data, .data, .pinned], laidTests := true, laidLooks := .later }
def ParadigmLabelsCardSaid : Prop := Claim7.holds Tryz.pinned (.plain (OpenSpec.ofChange paradigmLabelsSpec)) paradigmLabelsCard

/-- THE TIED CARD OF 'ablautlaw29.ParadigmBuilds'. -/
def paradigmBuildsCard : Claim7 := { stood := { row := paradigmBuildsRow, standIns := [], harness := (true, "657460d1287f3025a9464dad3e75abd267371ba53d8c3de63bb8e6e2a33353f1"), looks := true }, kinds := [], alts := [], laidByText := true, laidKinds := [.data, .data, .pinned], laidTests := true, laidLooks := .later }
def ParadigmBuildsCardSaid : Prop := Claim7.holds Tryz.pinned (.plain (OpenSpec.ofChange paradigmBuildsSpec)) paradigmBuildsCard

/-- THE TIED CARD OF 'ablautlaw29.ParadigmDerives'. -/
def paradigmDerivesCard : Claim7 := { stood := { row := paradigmDerivesRow, standIns := [], harness := (true, "657460d1287f3025a9464dad3e75abd267371ba53d8c3de63bb8e6e2a33353f1"), looks := true }, kinds := [], alts := [], laidByText := true, laidKinds := [.data, .data, .pinned], laidTests := true, laidLooks := .later }
def ParadigmDerivesCardSaid : Prop := Claim7.holds Tryz.pinned (.plain (OpenSpec.ofChange paradigmDerivesSpec)) paradigmDerivesCard

/-- THE TIED CARD OF 'ablautlaw29.ParadigmAgain'. -/
def paradigmAgainCard : Claim7 := { stood := { row := paradigmAgainRow, standIns := [], harness := (true, "657460d1287f3025a9464dad3e75abd267371ba53d8c3de63bb8e6e2a33353f1"), looks := true }, kinds := [], alts := [], laidByText := true, laidKinds := [.data, .data, .pinned], laidTests := true, laidLooks := .later }
def ParadigmAgainCardSaid : Prop := Claim7.holds Tryz.pinned (.plain (OpenSpec.ofChange paradigmAgainSpec)) paradigmAgainCard

/-- THE TIED CARD OF 'ablautlaw29.ParadigmClasses'. -/
def paradigmClassesCard : Claim7 := { stood := { row := paradigmClassesRow, standIns := [], harness := (true, "657460d1287f3025a9464dad3e75abd267371ba53d8c3de63bb8e6e2a33353f1"), looks := true }, kinds := [], alts := [], laidByText := true, laidKinds := [.data, .data, .pinned], laidTests := true, laidLooks := .later }
def ParadigmClassesCardSaid : Prop := Claim7.holds Tryz.pinned (.plain (OpenSpec.ofChange paradigmClassesSpec)) paradigmClassesCard

/-- THE TIED CARD OF 'ablautlaw29.ParadigmGrades'. -/
def paradigmGradesCard : Claim7 := { stood := { row := paradigmGradesRow, standIns := [], harness := (true, "657460d1287f3025a9464dad3e75abd267371ba53d8c3de63bb8e6e2a33353f1"), looks := true }, kinds := [], alts := [], laidByText := true, laidKinds := [.data, .data, .pinned], laidTests := true, laidLooks := .later }
def ParadigmGradesCardSaid : Prop := Claim7.holds Tryz.pinned (.plain (OpenSpec.ofChange paradigmGradesSpec)) paradigmGradesCard

/-- THE TIED CARD OF 'ablautlaw29.ParadigmBecomes'. -/
def paradigmBecomesCard : Claim7 := { stood := { row := paradigmBecomesRow, standIns := [], harness := (true, "657460d1287f3025a9464dad3e75abd267371ba53d8c3de63bb8e6e2a33353f1"), looks := true }, kinds := [], alts := [], laidByText := true, laidKinds := [.data, .data, .pinned], laidTests := true, laidLooks := .later }
def ParadigmBecomesCardSaid : Prop := Claim7.holds Tryz.pinned (.plain (OpenSpec.ofChange paradigmBecomesSpec)) paradigmBecomesCard

/-- THE TIED CARD OF 'ablautlaw29.ParadigmKnown'. -/
def paradigmKnownCard : Claim7 := { stood := { row := paradigmKnownRow, standIns := [], harness := (true, "657460d1287f3025a9464dad3e75abd267371ba53d8c3de63bb8e6e2a33353f1"), looks := true }, kinds := [], alts := [], laidByText := true, laidKinds := [.data, .data, .pinned], laidTests := true, laidLooks := .later }
def ParadigmKnownCardSaid : Prop := Claim7.holds Tryz.pinned (.plain (OpenSpec.ofChange paradigmKnownSpec)) paradigmKnownCard

/-- THE SECOND FORM's CARD OF 'ablautlaw10.DeriveKnown'. -/
def deriveKnownUptoCard : Claim7 := { stood := { row := deriveKnownUptoRow, standIns := [], harness := (true, "657460d1287f3025a9464dad3e75abd267371ba53d8c3de63bb8e6e2a33353f1"), looks := true }, kinds := [], alts := [], laidByText := true, laidKinds := [.data, .data, .pinned], laidTests := true, laidLooks := .later }
def DeriveKnownUptoCardSaid : Prop := Claim7.holds Tryz.pinned (.plain (OpenSpec.upto deriveKnownSpec)) deriveKnownUptoCard

/-- THE SECOND FORM's CARD OF 'ablautlaw12.InterplayRelations'. -/
def interplayRelationsUptoCard : Claim7 := { stood := { row := interplayRelationsUptoRow, standIns := [], harness := (true, "657460d1287f3025a9464dad3e75abd267371ba53d8c3de63bb8e6e2a33353f1"), looks := true }, kinds := [], alts := [], laidByText := true, laidKinds := [.data, .data, .pinned], laidTests := true, laidLooks := .later }
def InterplayRelationsUptoCardSaid : Prop := Claim7.holds Tryz.pinned (.plain (OpenSpec.upto interplayRelationsSpec)) interplayRelationsUptoCard

/-- THE SECOND FORM's CARD OF 'ablautlaw12.InterplayTables'. -/
def interplayTablesUptoCard : Claim7 := { stood := { row := interplayTablesUptoRow, standIns := [], harness := (true, "657460d1287f3025a9464dad3e75abd267371ba53d8c3de63bb8e6e2a33353f1"), looks := true }, kinds := [], alts := [], laidByText := true, laidKinds := [.data, .data, .pinned], laidTests := true, laidLooks := .later }
def InterplayTablesUptoCardSaid : Prop := Claim7.holds Tryz.pinned (.plain (OpenSpec.upto interplayTablesSpec)) interplayTablesUptoCard

/-- THE SECOND FORM's CARD OF 'ablautlaw29.ParadigmStems'. -/
def paradigmStemsUptoCard : Claim7 := { stood := { row := paradigmStemsUptoRow, standIns := [], harness := (true, "657460d1287f3025a9464dad3e75abd267371ba53d8c3de63bb8e6e2a33353f1"), looks := true }, kinds := [], alts := [], laidByText := true, laidKinds := [.data, .data, .pinned], laidTests := true, laidLooks := .later }
def ParadigmStemsUptoCardSaid : Prop := Claim7.holds Tryz.pinned (.plain (OpenSpec.upto paradigmStemsSpec)) paradigmStemsUptoCard

/-- THE SECOND FORM's CARD OF 'ablautlaw29.ParadigmLabels'. -/
def paradigmLabelsUptoCard : Claim7 := { stood := { row := paradigmLabelsUptoRow, standIns := [], harness := (true, "657460d1287f3025a9464dad3e75abd267371ba53d8c3de63bb8e6e2a33353f1"), looks := true }, kinds := [], alts := [], laidByText := true, laidKinds := [.data, .data, .pinned], laidTests := true, laidLooks := .later }
def ParadigmLabelsUptoCardSaid : Prop := Claim7.holds Tryz.pinned (.plain (OpenSpec.upto paradigmLabelsSpec)) paradigmLabelsUptoCard

/-- THE SECOND FORM's CARD OF 'ablautlaw29.ParadigmBuilds'. -/
def paradigmBuildsUptoCard : Claim7 := { stood := { row := paradigmBuildsUptoRow, standIns := [], harness := (true, "657460d1287f3025a9464dad3e75abd267371ba53d8c3de63bb8e6e2a33353f1"), looks := true }, kinds := [], alts := [], laidByText := true, laidKinds := [.data, .data, .pinned], laidTests := true, laidLooks := .later }
def ParadigmBuildsUptoCardSaid : Prop := Claim7.holds Tryz.pinned (.plain (OpenSpec.upto paradigmBuildsSpec)) paradigmBuildsUptoCard

/-- THE SECOND FORM's CARD OF 'ablautlaw29.ParadigmDerives'. -/
def paradigmDerivesUptoCard : Claim7 := { stood := { row := paradigmDerivesUptoRow, standIns := [], harness := (true, "657460d1287f3025a9464dad3e75abd267371ba53d8c3de63bb8e6e2a33353f1"), looks := true }, kinds := [], alts := [], laidByText := true, laidKinds := [.data, .data, .pinned], laidTests := true, laidLooks := .later }
def ParadigmDerivesUptoCardSaid : Prop := Claim7.holds Tryz.pinned (.plain (OpenSpec.upto paradigmDerivesSpec)) paradigmDerivesUptoCard

/-- THE SECOND FORM's CARD OF 'ablautlaw29.ParadigmAgain'. -/
def paradigmAgainUptoCard : Claim7 := { stood := { row := paradigmAgainUptoRow, standIns := [], harness := (true, "657460d1287f3025a9464dad3e75abd267371ba53d8c3de63bb8e6e2a33353f1"), looks := true }, kinds := [], alts := [], laidByText := true, laidKinds := [.data, .data, .pinned], laidTests := true, laidLooks := .later }
def ParadigmAgainUptoCardSaid : Prop := Claim7.holds Tryz.pinned (.plain (OpenSpec.upto paradigmAgainSpec)) paradigmAgainUptoCard

/-- THE SECOND FORM's CARD OF 'ablautlaw29.ParadigmClasses'. -/
def paradigmClassesUptoCard : Claim7 := { stood := { row := paradigmClassesUptoRow, standIns := [], harness := (true, "657460d1287f3025a9464dad3e75abd267371ba53d8c3de63bb8e6e2a33353f1"), looks := true }, kinds := [], alts := [], laidByText := true, laidKinds := [.data, .data, .pinned], laidTests := true, laidLooks := .later }
def ParadigmClassesUptoCardSaid : Prop := Claim7.holds Tryz.pinned (.plain (OpenSpec.upto paradigmClassesSpec)) paradigmClassesUptoCard

/-- THE SECOND FORM's CARD OF 'ablautlaw29.ParadigmGrades'. -/
def paradigmGradesUptoCard : Claim7 := { stood := { row := paradigmGradesUptoRow, standIns := [], harness := (true, "657460d1287f3025a9464dad3e75abd267371ba53d8c3de63bb8e6e2a33353f1"), looks := true }, kinds := [], alts := [], laidByText := true, laidKinds := [.data, .data, .pinned], laidTests := true, laidLooks := .later }
def ParadigmGradesUptoCardSaid : Prop := Claim7.holds Tryz.pinned (.plain (OpenSpec.upto paradigmGradesSpec)) paradigmGradesUptoCard

/-- THE SECOND FORM's CARD OF 'ablautlaw29.ParadigmBecomes'. -/
def paradigmBecomesUptoCard : Claim7 := { stood := { row := paradigmBecomesUptoRow, standIns := [], harness := (true, "657460d1287f3025a9464dad3e75abd267371ba53d8c3de63bb8e6e2a33353f1"), looks := true }, kinds := [], alts := [], laidByText := true, laidKinds := [.data, .data, .pinned], laidTests := true, laidLooks := .later }
def ParadigmBecomesUptoCardSaid : Prop := Claim7.holds Tryz.pinned (.plain (OpenSpec.upto paradigmBecomesSpec)) paradigmBecomesUptoCard

/-- THE SECOND FORM's CARD OF 'ablautlaw29.ParadigmKnown'. -/
def paradigmKnownUptoCard : Claim7 := { stood := { row := paradigmKnownUptoRow, standIns := [], harness := (true, "657460d1287f3025a9464dad3e75abd267371ba53d8c3de63bb8e6e2a33353f1"), looks := true }, kinds := [], alts := [], laidByText := true, laidKinds := [.data, .data, .pinned], laidTests := true, laidLooks := .later }
def ParadigmKnownUptoCardSaid : Prop := Claim7.holds Tryz.pinned (.plain (OpenSpec.upto paradigmKnownSpec)) paradigmKnownUptoCard
end Rows
end Go.Proofs.YtcpcojgmmpnkoaaGreatDoor

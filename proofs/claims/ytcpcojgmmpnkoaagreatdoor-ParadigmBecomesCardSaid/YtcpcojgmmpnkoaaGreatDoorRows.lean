/-
  NARROWER THAN 'FOR EVERY INPUT', by the rows' own cells (each row's printed sentence says how): DeriveKnown: laid · InterplayRelations: loops, laid · InterplayTables: loops, laid · ParadigmStems: laid · ParadigmLabels: laid · ParadigmBuilds: laid · ParadigmDerives: loops, laid · ParadigmAgain: laid · ParadigmClasses: laid · ParadigmGrades: laid · ParadigmBecomes: loops, laid · ParadigmKnown: laid.
  DERIVED. THE GIVEN ROWS OF THIS SEAT. 12 by the template 'for every input the law returns true; each argument reads behind the call as it read before'; 0 by the template 'total and deterministic' (their statements: YtcpcojgmmpnkoaaGreatDoorTotals.lean).
  GIVEN WITH THE SEED: the statements are not yours to turn. If you find one false, say at which input.
  Laid BY PROGRAM, IN A SANDBOX (cutbox-rows.mjs): the forced cells as the released guide's own fill.sh prints them over the translation c05e6722fb8b7477… (all of the seat's roots in one cut). By AI agents, Wed Nov 11 2026. No macro, syntax, notation, axiom, sorry.
-/
import Derived.Test.YtcpcojgmmpnkoaaGreatDoorChecked
import GoSem.PinnedTables
import GoSem.Claim
import GoSem.ClaimJoined
import GoSem.ClaimMapViews
import Derived.JoinedTies
import Derived.KernelRfl
namespace Go.Proofs.YtcpcojgmmpnkoaaGreatDoor
/- THE CELL 'sum', in the pinned program and in every row, IS THE sha256 OF THE DUMP (.gsa) THAT YtcpcojgmmpnkoaaGreatDoorProg.lean LOADS. Nothing in Lean hashes anything: it is a label: what it is worth is what the hold of that sum in a sandbox is worth. -/
noncomputable def Tryz.pinned : Pinned := { name := "ytcpcojgmmpnkoaagreatdoor", sum := "c05e6722fb8b7477ad5584c2a6cb8ab2189c841766387500d56e8917c4ec9ac2", checked := Tryz.checked }
namespace Rows
def none {H : Type} : Left H := { results := [], args := [] }

/- WHAT THE LISTED PACKAGE-LEVEL VARIABLES READ AS WHEN THE CALL BEGINS. Each datum BY PROGRAM (the guide's laid-datum.mjs) off the statement by which the dump's own 'gosem.cut.vars' lays the variable. In a bare row this is a premise. The card (YtcpcojgmmpnkoaaGreatDoorCards.lean) ties it to the program's text. -/
def laid_math_bits_deBruijn64tab {H : Type} : DataW H := .agg [.lit (.int .u8 0), .lit (.int .u8 1), .lit (.int .u8 56), .lit (.int .u8 2), .lit (.int .u8 57), .lit (.int .u8 49), .lit (.int .u8 28), .lit (.int .u8 3), .lit (.int .u8 61), .lit (.int .u8 58), .lit (.int .u8 42), .lit (.int .u8 50), .lit (.int .u8 38), .lit (.int .u8 29), .lit (.int .u8 17), .lit (.int .u8 4), .lit (.int .u8 62), .lit (.int .u8 47), .lit (.int .u8 59), .lit (.int .u8 36), .lit (.int .u8 45), .lit (.int .u8 43), .lit (.int .u8 51), .lit (.int .u8 22), .lit (.int .u8 53), .lit (.int .u8 39), .lit (.int .u8 33), .lit (.int .u8 30), .lit (.int .u8 24), .lit (.int .u8 18), .lit (.int .u8 12), .lit (.int .u8 5), .lit (.int .u8 63), .lit (.int .u8 55), .lit (.int .u8 48), .lit (.int .u8 27), .lit (.int .u8 60), .lit (.int .u8 41), .lit (.int .u8 37), .lit (.int .u8 16), .lit (.int .u8 46), .lit (.int .u8 35), .lit (.int .u8 44), .lit (.int .u8 21), .lit (.int .u8 52), .lit (.int .u8 32), .lit (.int .u8 23), .lit (.int .u8 11), .lit (.int .u8 54), .lit (.int .u8 26), .lit (.int .u8 40), .lit (.int .u8 15), .lit (.int .u8 34), .lit (.int .u8 20), .lit (.int .u8 31), .lit (.int .u8 10), .lit (.int .u8 25), .lit (.int .u8 14), .lit (.int .u8 19), .lit (.int .u8 9), .lit (.int .u8 13), .lit (.int .u8 8), .lit (.int .u8 7), .lit (.int .u8 6)]
def laid_unicode_utf8_acceptRanges {H : Type} : DataW H := .agg [.agg [.lit (.int .u8 128), .lit (.int .u8 191)], .agg [.lit (.int .u8 160), .lit (.int .u8 191)], .agg [.lit (.int .u8 128), .lit (.int .u8 159)], .agg [.lit (.int .u8 144), .lit (.int .u8 191)], .agg [.lit (.int .u8 128), .lit (.int .u8 143)], .agg [.lit (.int .u8 0), .lit (.int .u8 0)], .agg [.lit (.int .u8 0), .lit (.int .u8 0)], .agg [.lit (.int .u8 0), .lit (.int .u8 0)], .agg [.lit (.int .u8 0), .lit (.int .u8 0)], .agg [.lit (.int .u8 0), .lit (.int .u8 0)], .agg [.lit (.int .u8 0), .lit (.int .u8 0)], .agg [.lit (.int .u8 0), .lit (.int .u8 0)], .agg [.lit (.int .u8 0), .lit (.int .u8 0)], .agg [.lit (.int .u8 0), .lit (.int .u8 0)], .agg [.lit (.int .u8 0), .lit (.int .u8 0)], .agg [.lit (.int .u8 0), .lit (.int .u8 0)]]
/-- One of Go's own tables, pinned by name: the form's constant. -/
def laid_unicode_utf8_first : DataW Unit := Go.Pinned.utf8First

/-- 'ablautlaw10.DeriveKnown': WHATEVER THE INPUT: true; the input reads as it did. -/
def deriveKnownSpec : ChangeSpec := { name := "deriveKnown", fn := fun _ => fun
  | [] => { results := [.lit (.bool true)], args := [] }
  | _ => none }
def deriveKnownRow : OpenClaim := { program := "ytcpcojgmmpnkoaagreatdoor", sum := "c05e6722fb8b7477ad5584c2a6cb8ab2189c841766387500d56e8917c4ec9ac2", func := "ablaut/ablautlaw10.DeriveKnown", spec := "deriveKnown", inPlace := ["internal/bytealg.IndexByteString", "internal/bytealg.IndexString"], unfollowed := true, recurses := true, named := ["unicode/utf8.first", "unicode/utf8.acceptRanges", "math/bits.deBruijn64tab", "internal/bytealg.MaxLen"], apart := false, laid := [("math/bits.deBruijn64tab", laid_math_bits_deBruijn64tab), ("unicode/utf8.acceptRanges", laid_unicode_utf8_acceptRanges), ("unicode/utf8.first", laid_unicode_utf8_first)] }
def DeriveKnownSaid : Prop := deriveKnownRow.holds Tryz.pinned (OpenSpec.ofChange deriveKnownSpec)

/-- ITS FALSE NEIGHBOUR: 'it returns false'. Refute it at one input. -/
def deriveKnownWrong : ChangeSpec := { name := "deriveKnown", fn := fun _ => fun
  | [] => { results := [.lit (.bool false)], args := [] }
  | _ => none }
def DeriveKnownWrongFalsely : Prop := deriveKnownRow.holds Tryz.pinned (OpenSpec.ofChange deriveKnownWrong)

/-- 'ablautlaw12.InterplayRelations': WHATEVER THE INPUT: true; the input reads as it did. -/
def interplayRelationsSpec : ChangeSpec := { name := "interplayRelations", fn := fun _ => fun
  | [d1, d2, d3] => { results := [.lit (.bool true)], args := [d1, d2, d3] }
  | _ => none }
def interplayRelationsRow : OpenClaim := { program := "ytcpcojgmmpnkoaagreatdoor", sum := "c05e6722fb8b7477ad5584c2a6cb8ab2189c841766387500d56e8917c4ec9ac2", func := "ablaut/ablautlaw12.InterplayRelations", spec := "interplayRelations", inPlace := ["internal/bytealg.IndexByteString", "internal/bytealg.IndexString"], unfollowed := true, recurses := true, named := ["unicode/utf8.first", "unicode/utf8.acceptRanges", "math/bits.deBruijn64tab", "internal/bytealg.MaxLen"], loops := true, apart := false, laid := [("math/bits.deBruijn64tab", laid_math_bits_deBruijn64tab), ("unicode/utf8.acceptRanges", laid_unicode_utf8_acceptRanges), ("unicode/utf8.first", laid_unicode_utf8_first)] }
def InterplayRelationsSaid : Prop := interplayRelationsRow.holds Tryz.pinned (OpenSpec.ofChange interplayRelationsSpec)

/-- ITS FALSE NEIGHBOUR: 'it returns false'. Refute it at one input. -/
def interplayRelationsWrong : ChangeSpec := { name := "interplayRelations", fn := fun _ => fun
  | [d1, d2, d3] => { results := [.lit (.bool false)], args := [d1, d2, d3] }
  | _ => none }
def InterplayRelationsWrongFalsely : Prop := interplayRelationsRow.holds Tryz.pinned (OpenSpec.ofChange interplayRelationsWrong)

/-- 'ablautlaw12.InterplayTables': WHATEVER THE INPUT: true; the input reads as it did. -/
def interplayTablesSpec : ChangeSpec := { name := "interplayTables", fn := fun _ => fun
  | [d1, d2] => { results := [.lit (.bool true)], args := [d1, d2] }
  | _ => none }
def interplayTablesRow : OpenClaim := { program := "ytcpcojgmmpnkoaagreatdoor", sum := "c05e6722fb8b7477ad5584c2a6cb8ab2189c841766387500d56e8917c4ec9ac2", func := "ablaut/ablautlaw12.InterplayTables", spec := "interplayTables", inPlace := ["internal/bytealg.IndexByteString", "internal/bytealg.IndexString"], unfollowed := true, recurses := true, named := ["unicode/utf8.first", "unicode/utf8.acceptRanges", "math/bits.deBruijn64tab", "internal/bytealg.MaxLen"], loops := true, apart := false, laid := [("math/bits.deBruijn64tab", laid_math_bits_deBruijn64tab), ("unicode/utf8.acceptRanges", laid_unicode_utf8_acceptRanges), ("unicode/utf8.first", laid_unicode_utf8_first)] }
def InterplayTablesSaid : Prop := interplayTablesRow.holds Tryz.pinned (OpenSpec.ofChange interplayTablesSpec)

/-- ITS FALSE NEIGHBOUR: 'it returns false'. Refute it at one input. -/
def interplayTablesWrong : ChangeSpec := { name := "interplayTables", fn := fun _ => fun
  | [d1, d2] => { results := [.lit (.bool false)], args := [d1, d2] }
  | _ => none }
def InterplayTablesWrongFalsely : Prop := interplayTablesRow.holds Tryz.pinned (OpenSpec.ofChange interplayTablesWrong)

/-- 'ablautlaw29.ParadigmStems': WHATEVER THE INPUT: true; the input reads as it did. -/
def paradigmStemsSpec : ChangeSpec := { name := "paradigmStems", fn := fun _ => fun
  | [d1, d2] => { results := [.lit (.bool true)], args := [d1, d2] }
  | _ => none }
def paradigmStemsRow : OpenClaim := { program := "ytcpcojgmmpnkoaagreatdoor", sum := "c05e6722fb8b7477ad5584c2a6cb8ab2189c841766387500d56e8917c4ec9ac2", func := "ablaut/ablautlaw29.ParadigmStems", spec := "paradigmStems", inPlace := ["internal/bytealg.IndexByteString", "internal/bytealg.IndexString"], unfollowed := true, recurses := true, named := ["unicode/utf8.first", "unicode/utf8.acceptRanges", "math/bits.deBruijn64tab", "internal/bytealg.MaxLen"], apart := false, laid := [("math/bits.deBruijn64tab", laid_math_bits_deBruijn64tab), ("unicode/utf8.acceptRanges", laid_unicode_utf8_acceptRanges), ("unicode/utf8.first", laid_unicode_utf8_first)] }
def ParadigmStemsSaid : Prop := paradigmStemsRow.holds Tryz.pinned (OpenSpec.ofChange paradigmStemsSpec)

/-- ITS FALSE NEIGHBOUR: 'it returns false'. Refute it at one input. -/
def paradigmStemsWrong : ChangeSpec := { name := "paradigmStems", fn := fun _ => fun
  | [d1, d2] => { results := [.lit (.bool false)], args := [d1, d2] }
  | _ => none }
def ParadigmStemsWrongFalsely : Prop := paradigmStemsRow.holds Tryz.pinned (OpenSpec.ofChange paradigmStemsWrong)

/-- 'ablautlaw29.ParadigmLabels': WHATEVER THE INPUT: true; the input reads as it did. -/
def paradigmLabelsSpec : ChangeSpec := { name := "paradigmLabels", fn := fun _ => fun
  | [d1, d2, d3] => { results := [.lit (.bool true)], args := [d1, d2, d3] }
  | _ => none }
def paradigmLabelsRow : OpenClaim := { program := "ytcpcojgmmpnkoaagreatdoor", sum := "c05e6722fb8b7477ad5584c2a6cb8ab2189c841766387500d56e8917c4ec9ac2", func := "ablaut/ablautlaw29.ParadigmLabels", spec := "paradigmLabels", inPlace := ["internal/bytealg.IndexByteString", "internal/bytealg.IndexString"], unfollowed := true, recurses := true, named := ["unicode/utf8.first", "unicode/utf8.acceptRanges", "math/bits.deBruijn64tab", "internal/bytealg.MaxLen"], apart := false, laid := [("math/bits.deBruijn64tab", laid_math_bits_deBruijn64tab), ("unicode/utf8.acceptRanges", laid_unicode_utf8_acceptRanges), ("unicode/utf8.first", laid_unicode_utf8_first)] }
def ParadigmLabelsSaid : Prop := paradigmLabelsRow.holds Tryz.pinned (OpenSpec.ofChange paradigmLabelsSpec)

/-- ITS FALSE NEIGHBOUR: 'it returns false'. Refute it at one input. -/
def paradigmLabelsWrong : ChangeSpec := { name := "paradigmLabels", fn := fun _ => fun
  | [d1, d2, d3] => { results := [.lit (.bool false)], args := [d1, d2, d3] }
  | _ => none }
def ParadigmLabelsWrongFalsely : Prop := paradigmLabelsRow.holds Tryz.pinned (OpenSpec.ofChange paradigmLabelsWrong)

/-- 'ablautlaw29.ParadigmBuilds': WHATEVER THE INPUT: true; the input reads as it did. -/
def paradigmBuildsSpec : ChangeSpec := { name := "paradigmBuilds", fn := fun _ => fun
  | [d1, d2] => { results := [.lit (.bool true)], args := [d1, d2] }
  | _ => none }
def paradigmBuildsRow : OpenClaim := { program := "ytcpcojgmmpnkoaagreatdoor", sum := "c05e6722fb8b7477ad5584c2a6cb8ab2189c841766387500d56e8917c4ec9ac2", func := "ablaut/ablautlaw29.ParadigmBuilds", spec := "paradigmBuilds", inPlace := ["internal/bytealg.IndexByteString", "internal/bytealg.IndexString"], unfollowed := true, recurses := true, named := ["unicode/utf8.first", "unicode/utf8.acceptRanges", "math/bits.deBruijn64tab", "internal/bytealg.MaxLen"], apart := false, laid := [("math/bits.deBruijn64tab", laid_math_bits_deBruijn64tab), ("unicode/utf8.acceptRanges", laid_unicode_utf8_acceptRanges), ("unicode/utf8.first", laid_unicode_utf8_first)] }
def ParadigmBuildsSaid : Prop := paradigmBuildsRow.holds Tryz.pinned (OpenSpec.ofChange paradigmBuildsSpec)

/-- ITS FALSE NEIGHBOUR: 'it returns false'. Refute it at one input. -/
def paradigmBuildsWrong : ChangeSpec := { name := "paradigmBuilds", fn := fun _ => fun
  | [d1, d2] => { results := [.lit (.bool false)], args := [d1, d2] }
  | _ => none }
def ParadigmBuildsWrongFalsely : Prop := paradigmBuildsRow.holds Tryz.pinned (OpenSpec.ofChange paradigmBuildsWrong)

/-- 'ablautlaw29.ParadigmDerives': WHATEVER THE INPUT: true; the input reads as it did. -/
def paradigmDerivesSpec : ChangeSpec := { name := "paradigmDerives", fn := fun _ => fun
  | [d1, d2] => { results := [.lit (.bool true)], args := [d1, d2] }
  | _ => none }
def paradigmDerivesRow : OpenClaim := { program := "ytcpcojgmmpnkoaagreatdoor", sum := "c05e6722fb8b7477ad5584c2a6cb8ab2189c841766387500d56e8917c4ec9ac2", func := "ablaut/ablautlaw29.ParadigmDerives", spec := "paradigmDerives", inPlace := ["internal/bytealg.IndexByteString", "internal/bytealg.IndexString"], unfollowed := true, recurses := true, named := ["unicode/utf8.first", "unicode/utf8.acceptRanges", "math/bits.deBruijn64tab", "internal/bytealg.MaxLen"], loops := true, apart := false, laid := [("math/bits.deBruijn64tab", laid_math_bits_deBruijn64tab), ("unicode/utf8.acceptRanges", laid_unicode_utf8_acceptRanges), ("unicode/utf8.first", laid_unicode_utf8_first)] }
def ParadigmDerivesSaid : Prop := paradigmDerivesRow.holds Tryz.pinned (OpenSpec.ofChange paradigmDerivesSpec)

/-- ITS FALSE NEIGHBOUR: 'it returns false'. Refute it at one input. -/
def paradigmDerivesWrong : ChangeSpec := { name := "paradigmDerives", fn := fun _ => fun
  | [d1, d2] => { results := [.lit (.bool false)], args := [d1, d2] }
  | _ => none }
def ParadigmDerivesWrongFalsely : Prop := paradigmDerivesRow.holds Tryz.pinned (OpenSpec.ofChange paradigmDerivesWrong)

/-- 'ablautlaw29.ParadigmAgain': WHATEVER THE INPUT: true; the input reads as it did. -/
def paradigmAgainSpec : ChangeSpec := { name := "paradigmAgain", fn := fun _ => fun
  | [d] => { results := [.lit (.bool true)], args := [d] }
  | _ => none }
def paradigmAgainRow : OpenClaim := { program := "ytcpcojgmmpnkoaagreatdoor", sum := "c05e6722fb8b7477ad5584c2a6cb8ab2189c841766387500d56e8917c4ec9ac2", func := "ablaut/ablautlaw29.ParadigmAgain", spec := "paradigmAgain", inPlace := ["internal/bytealg.IndexByteString", "internal/bytealg.IndexString"], unfollowed := true, recurses := true, named := ["unicode/utf8.first", "unicode/utf8.acceptRanges", "math/bits.deBruijn64tab", "internal/bytealg.MaxLen"], apart := false, laid := [("math/bits.deBruijn64tab", laid_math_bits_deBruijn64tab), ("unicode/utf8.acceptRanges", laid_unicode_utf8_acceptRanges), ("unicode/utf8.first", laid_unicode_utf8_first)] }
def ParadigmAgainSaid : Prop := paradigmAgainRow.holds Tryz.pinned (OpenSpec.ofChange paradigmAgainSpec)

/-- ITS FALSE NEIGHBOUR: 'it returns false'. Refute it at one input. -/
def paradigmAgainWrong : ChangeSpec := { name := "paradigmAgain", fn := fun _ => fun
  | [d] => { results := [.lit (.bool false)], args := [d] }
  | _ => none }
def ParadigmAgainWrongFalsely : Prop := paradigmAgainRow.holds Tryz.pinned (OpenSpec.ofChange paradigmAgainWrong)

/-- 'ablautlaw29.ParadigmClasses': WHATEVER THE INPUT: true; the input reads as it did. -/
def paradigmClassesSpec : ChangeSpec := { name := "paradigmClasses", fn := fun _ => fun
  | [d1, d2] => { results := [.lit (.bool true)], args := [d1, d2] }
  | _ => none }
def paradigmClassesRow : OpenClaim := { program := "ytcpcojgmmpnkoaagreatdoor", sum := "c05e6722fb8b7477ad5584c2a6cb8ab2189c841766387500d56e8917c4ec9ac2", func := "ablaut/ablautlaw29.ParadigmClasses", spec := "paradigmClasses", inPlace := ["internal/bytealg.IndexByteString", "internal/bytealg.IndexString"], unfollowed := true, recurses := true, named := ["unicode/utf8.first", "unicode/utf8.acceptRanges", "math/bits.deBruijn64tab", "internal/bytealg.MaxLen"], apart := false, laid := [("math/bits.deBruijn64tab", laid_math_bits_deBruijn64tab), ("unicode/utf8.acceptRanges", laid_unicode_utf8_acceptRanges), ("unicode/utf8.first", laid_unicode_utf8_first)] }
def ParadigmClassesSaid : Prop := paradigmClassesRow.holds Tryz.pinned (OpenSpec.ofChange paradigmClassesSpec)

/-- ITS FALSE NEIGHBOUR: 'it returns false'. Refute it at one input. -/
def paradigmClassesWrong : ChangeSpec := { name := "paradigmClasses", fn := fun _ => fun
  | [d1, d2] => { results := [.lit (.bool false)], args := [d1, d2] }
  | _ => none }
def ParadigmClassesWrongFalsely : Prop := paradigmClassesRow.holds Tryz.pinned (OpenSpec.ofChange paradigmClassesWrong)

/-- 'ablautlaw29.ParadigmGrades': WHATEVER THE INPUT: true; the input reads as it did. -/
def paradigmGradesSpec : ChangeSpec := { name := "paradigmGrades", fn := fun _ => fun
  | [d1, d2] => { results := [.lit (.bool true)], args := [d1, d2] }
  | _ => none }
def paradigmGradesRow : OpenClaim := { program := "ytcpcojgmmpnkoaagreatdoor", sum := "c05e6722fb8b7477ad5584c2a6cb8ab2189c841766387500d56e8917c4ec9ac2", func := "ablaut/ablautlaw29.ParadigmGrades", spec := "paradigmGrades", inPlace := ["internal/bytealg.IndexByteString", "internal/bytealg.IndexString"], unfollowed := true, recurses := true, named := ["unicode/utf8.first", "unicode/utf8.acceptRanges", "math/bits.deBruijn64tab", "internal/bytealg.MaxLen"], apart := false, laid := [("math/bits.deBruijn64tab", laid_math_bits_deBruijn64tab), ("unicode/utf8.acceptRanges", laid_unicode_utf8_acceptRanges), ("unicode/utf8.first", laid_unicode_utf8_first)] }
def ParadigmGradesSaid : Prop := paradigmGradesRow.holds Tryz.pinned (OpenSpec.ofChange paradigmGradesSpec)

/-- ITS FALSE NEIGHBOUR: 'it returns false'. Refute it at one input. -/
def paradigmGradesWrong : ChangeSpec := { name := "paradigmGrades", fn := fun _ => fun
  | [d1, d2] => { results := [.lit (.bool false)], args := [d1, d2] }
  | _ => none }
def ParadigmGradesWrongFalsely : Prop := paradigmGradesRow.holds Tryz.pinned (OpenSpec.ofChange paradigmGradesWrong)

/-- 'ablautlaw29.ParadigmBecomes': WHATEVER THE INPUT: true; the input reads as it did. -/
def paradigmBecomesSpec : ChangeSpec := { name := "paradigmBecomes", fn := fun _ => fun
  | [d1, d2, d3] => { results := [.lit (.bool true)], args := [d1, d2, d3] }
  | _ => none }
def paradigmBecomesRow : OpenClaim := { program := "ytcpcojgmmpnkoaagreatdoor", sum := "c05e6722fb8b7477ad5584c2a6cb8ab2189c841766387500d56e8917c4ec9ac2", func := "ablaut/ablautlaw29.ParadigmBecomes", spec := "paradigmBecomes", inPlace := ["internal/bytealg.IndexByteString", "internal/bytealg.IndexString"], unfollowed := true, recurses := true, named := ["unicode/utf8.first", "unicode/utf8.acceptRanges", "math/bits.deBruijn64tab", "internal/bytealg.MaxLen"], loops := true, apart := false, laid := [("math/bits.deBruijn64tab", laid_math_bits_deBruijn64tab), ("unicode/utf8.acceptRanges", laid_unicode_utf8_acceptRanges), ("unicode/utf8.first", laid_unicode_utf8_first)] }
def ParadigmBecomesSaid : Prop := paradigmBecomesRow.holds Tryz.pinned (OpenSpec.ofChange paradigmBecomesSpec)

/-- ITS FALSE NEIGHBOUR: 'it returns false'. Refute it at one input. -/
def paradigmBecomesWrong : ChangeSpec := { name := "paradigmBecomes", fn := fun _ => fun
  | [d1, d2, d3] => { results := [.lit (.bool false)], args := [d1, d2, d3] }
  | _ => none }
def ParadigmBecomesWrongFalsely : Prop := paradigmBecomesRow.holds Tryz.pinned (OpenSpec.ofChange paradigmBecomesWrong)

/-- 'ablautlaw29.ParadigmKnown': WHATEVER THE INPUT: true; the input reads as it did. -/
def paradigmKnownSpec : ChangeSpec := { name := "paradigmKnown", fn := fun _ => fun
  | [] => { results := [.lit (.bool true)], args := [] }
  | _ => none }
def paradigmKnownRow : OpenClaim := { program := "ytcpcojgmmpnkoaagreatdoor", sum := "c05e6722fb8b7477ad5584c2a6cb8ab2189c841766387500d56e8917c4ec9ac2", func := "ablaut/ablautlaw29.ParadigmKnown", spec := "paradigmKnown", inPlace := ["internal/bytealg.IndexByteString", "internal/bytealg.IndexString"], unfollowed := true, recurses := true, named := ["unicode/utf8.first", "unicode/utf8.acceptRanges", "math/bits.deBruijn64tab", "internal/bytealg.MaxLen"], apart := false, laid := [("math/bits.deBruijn64tab", laid_math_bits_deBruijn64tab), ("unicode/utf8.acceptRanges", laid_unicode_utf8_acceptRanges), ("unicode/utf8.first", laid_unicode_utf8_first)] }
def ParadigmKnownSaid : Prop := paradigmKnownRow.holds Tryz.pinned (OpenSpec.ofChange paradigmKnownSpec)

/-- ITS FALSE NEIGHBOUR: 'it returns false'. Refute it at one input. -/
def paradigmKnownWrong : ChangeSpec := { name := "paradigmKnown", fn := fun _ => fun
  | [] => { results := [.lit (.bool false)], args := [] }
  | _ => none }
def ParadigmKnownWrongFalsely : Prop := paradigmKnownRow.holds Tryz.pinned (OpenSpec.ofChange paradigmKnownWrong)

/- THE SECOND FORM. 'bulk': how many values and letters a reading holds, each counted each time it is reached (what is shared counts as often as it is met; a slice's spare places count too). A statement '..UptoSaid' is the law's where the arguments, and the package variables that the reading takes, are together of bulk at most 1048576: NARROWER than '..Said'. Prove '..Said' where nothing that the law and all that it calls make is longer than what came in: it says more and counts as full. Else prove '..UptoSaid'. A law counts once. -/
mutual
def uptoBulk {H : Type} : DataW H → Nat
  | .lit (.string bytes) => bytes.length + 1
  | .lit _ => 1
  | .nil => 1
  | .ptr d => uptoBulk d + 1
  | .slice elems spare => uptoBulkAll elems + uptoBulkAll spare + 1
  | .agg parts => uptoBulkAll parts + 1
  | .iface _ d => uptoBulk d + 1
  | .map entries => uptoBulkEntries entries + 1
  | .held _ => 1
def uptoBulkAll {H : Type} : List (DataW H) → Nat
  | [] => 0
  | d :: r => uptoBulk d + uptoBulkAll r
def uptoBulkEntries {H : Type} : List (Lit × DataW H) → Nat
  | [] => 0
  | x :: r => uptoBulkEntry x + uptoBulkEntries r
def uptoBulkEntry {H : Type} : Lit × DataW H → Nat
  | (.string bytes, d) => bytes.length + uptoBulk d + 1
  | (_, d) => uptoBulk d + 1
 end
def uptoSmall : (H : Type) → List (DataW H) → Bool := fun _ ds => decide (uptoBulkAll ds ≤ 1048576)
def OpenSpec.upto (s : _root_.Go.ChangeSpec) : _root_.Go.OpenSpec := { _root_.Go.OpenSpec.ofChange s with cond := some uptoSmall }

/-- 'ablautlaw10.DeriveKnown', WHERE WHAT IT READS IS OF BULK AT MOST 1048576: true; the input reads as it did. -/
def deriveKnownUptoRow : OpenClaim := { program := "ytcpcojgmmpnkoaagreatdoor", sum := "c05e6722fb8b7477ad5584c2a6cb8ab2189c841766387500d56e8917c4ec9ac2", func := "ablaut/ablautlaw10.DeriveKnown", spec := "deriveKnown", inPlace := ["internal/bytealg.IndexByteString", "internal/bytealg.IndexString"], unfollowed := true, recurses := true, named := ["unicode/utf8.first", "unicode/utf8.acceptRanges", "math/bits.deBruijn64tab", "internal/bytealg.MaxLen"], apart := false, laid := [("math/bits.deBruijn64tab", laid_math_bits_deBruijn64tab), ("unicode/utf8.acceptRanges", laid_unicode_utf8_acceptRanges), ("unicode/utf8.first", laid_unicode_utf8_first)], narrowed := true }
def DeriveKnownUptoSaid : Prop := deriveKnownUptoRow.holds Tryz.pinned (OpenSpec.upto deriveKnownSpec)

/-- 'ablautlaw12.InterplayRelations', WHERE WHAT IT READS IS OF BULK AT MOST 1048576: true; the input reads as it did. -/
def interplayRelationsUptoRow : OpenClaim := { program := "ytcpcojgmmpnkoaagreatdoor", sum := "c05e6722fb8b7477ad5584c2a6cb8ab2189c841766387500d56e8917c4ec9ac2", func := "ablaut/ablautlaw12.InterplayRelations", spec := "interplayRelations", inPlace := ["internal/bytealg.IndexByteString", "internal/bytealg.IndexString"], unfollowed := true, recurses := true, named := ["unicode/utf8.first", "unicode/utf8.acceptRanges", "math/bits.deBruijn64tab", "internal/bytealg.MaxLen"], loops := true, apart := false, laid := [("math/bits.deBruijn64tab", laid_math_bits_deBruijn64tab), ("unicode/utf8.acceptRanges", laid_unicode_utf8_acceptRanges), ("unicode/utf8.first", laid_unicode_utf8_first)], narrowed := true }
def InterplayRelationsUptoSaid : Prop := interplayRelationsUptoRow.holds Tryz.pinned (OpenSpec.upto interplayRelationsSpec)

/-- 'ablautlaw12.InterplayTables', WHERE WHAT IT READS IS OF BULK AT MOST 1048576: true; the input reads as it did. -/
def interplayTablesUptoRow : OpenClaim := { program := "ytcpcojgmmpnkoaagreatdoor", sum := "c05e6722fb8b7477ad5584c2a6cb8ab2189c841766387500d56e8917c4ec9ac2", func := "ablaut/ablautlaw12.InterplayTables", spec := "interplayTables", inPlace := ["internal/bytealg.IndexByteString", "internal/bytealg.IndexString"], unfollowed := true, recurses := true, named := ["unicode/utf8.first", "unicode/utf8.acceptRanges", "math/bits.deBruijn64tab", "internal/bytealg.MaxLen"], loops := true, apart := false, laid := [("math/bits.deBruijn64tab", laid_math_bits_deBruijn64tab), ("unicode/utf8.acceptRanges", laid_unicode_utf8_acceptRanges), ("unicode/utf8.first", laid_unicode_utf8_first)], narrowed := true }
def InterplayTablesUptoSaid : Prop := interplayTablesUptoRow.holds Tryz.pinned (OpenSpec.upto interplayTablesSpec)

/-- 'ablautlaw29.ParadigmStems', WHERE WHAT IT READS IS OF BULK AT MOST 1048576: true; the input reads as it did. -/
def paradigmStemsUptoRow : OpenClaim := { program := "ytcpcojgmmpnkoaagreatdoor", sum := "c05e6722fb8b7477ad5584c2a6cb8ab2189c841766387500d56e8917c4ec9ac2", func := "ablaut/ablautlaw29.ParadigmStems", spec := "paradigmStems", inPlace := ["internal/bytealg.IndexByteString", "internal/bytealg.IndexString"], unfollowed := true, recurses := true, named := ["unicode/utf8.first", "unicode/utf8.acceptRanges", "math/bits.deBruijn64tab", "internal/bytealg.MaxLen"], apart := false, laid := [("math/bits.deBruijn64tab", laid_math_bits_deBruijn64tab), ("unicode/utf8.acceptRanges", laid_unicode_utf8_acceptRanges), ("unicode/utf8.first", laid_unicode_utf8_first)], narrowed := true }
def ParadigmStemsUptoSaid : Prop := paradigmStemsUptoRow.holds Tryz.pinned (OpenSpec.upto paradigmStemsSpec)

/-- 'ablautlaw29.ParadigmLabels', WHERE WHAT IT READS IS OF BULK AT MOST 1048576: true; the input reads as it did. -/
def paradigmLabelsUptoRow : OpenClaim := { program := "ytcpcojgmmpnkoaagreatdoor", sum := "c05e6722fb8b7477ad5584c2a6cb8ab2189c841766387500d56e8917c4ec9ac2", func := "ablaut/ablautlaw29.ParadigmLabels", spec := "paradigmLabels", inPlace := ["internal/bytealg.IndexByteString", "internal/bytealg.IndexString"], unfollowed := true, recurses := true, named := ["unicode/utf8.first", "unicode/utf8.acceptRanges", "math/bits.deBruijn64tab", "internal/bytealg.MaxLen"], apart := false, laid := [("math/bits.deBruijn64tab", laid_math_bits_deBruijn64tab), ("unicode/utf8.acceptRanges", laid_unicode_utf8_acceptRanges), ("unicode/utf8.first", laid_unicode_utf8_first)], narrowed := true }
def ParadigmLabelsUptoSaid : Prop := paradigmLabelsUptoRow.holds Tryz.pinned (OpenSpec.upto paradigmLabelsSpec)

/-- 'ablautlaw29.ParadigmBuilds', WHERE WHAT IT READS IS OF BULK AT MOST 1048576: true; the input reads as it did. -/
def paradigmBuildsUptoRow : OpenClaim := { program := "ytcpcojgmmpnkoaagreatdoor", sum := "c05e6722fb8b7477ad5584c2a6cb8ab2189c841766387500d56e8917c4ec9ac2", func := "ablaut/ablautlaw29.ParadigmBuilds", spec := "paradigmBuilds", inPlace := ["internal/bytealg.IndexByteString", "internal/bytealg.IndexString"], unfollowed := true, recurses := true, named := ["unicode/utf8.first", "unicode/utf8.acceptRanges", "math/bits.deBruijn64tab", "internal/bytealg.MaxLen"], apart := false, laid := [("math/bits.deBruijn64tab", laid_math_bits_deBruijn64tab), ("unicode/utf8.acceptRanges", laid_unicode_utf8_acceptRanges), ("unicode/utf8.first", laid_unicode_utf8_first)], narrowed := true }
def ParadigmBuildsUptoSaid : Prop := paradigmBuildsUptoRow.holds Tryz.pinned (OpenSpec.upto paradigmBuildsSpec)

/-- 'ablautlaw29.ParadigmDerives', WHERE WHAT IT READS IS OF BULK AT MOST 1048576: true; the input reads as it did. -/
def paradigmDerivesUptoRow : OpenClaim := { program := "ytcpcojgmmpnkoaagreatdoor", sum := "c05e6722fb8b7477ad5584c2a6cb8ab2189c841766387500d56e8917c4ec9ac2", func := "ablaut/ablautlaw29.ParadigmDerives", spec := "paradigmDerives", inPlace := ["internal/bytealg.IndexByteString", "internal/bytealg.IndexString"], unfollowed := true, recurses := true, named := ["unicode/utf8.first", "unicode/utf8.acceptRanges", "math/bits.deBruijn64tab", "internal/bytealg.MaxLen"], loops := true, apart := false, laid := [("math/bits.deBruijn64tab", laid_math_bits_deBruijn64tab), ("unicode/utf8.acceptRanges", laid_unicode_utf8_acceptRanges), ("unicode/utf8.first", laid_unicode_utf8_first)], narrowed := true }
def ParadigmDerivesUptoSaid : Prop := paradigmDerivesUptoRow.holds Tryz.pinned (OpenSpec.upto paradigmDerivesSpec)

/-- 'ablautlaw29.ParadigmAgain', WHERE WHAT IT READS IS OF BULK AT MOST 1048576: true; the input reads as it did. -/
def paradigmAgainUptoRow : OpenClaim := { program := "ytcpcojgmmpnkoaagreatdoor", sum := "c05e6722fb8b7477ad5584c2a6cb8ab2189c841766387500d56e8917c4ec9ac2", func := "ablaut/ablautlaw29.ParadigmAgain", spec := "paradigmAgain", inPlace := ["internal/bytealg.IndexByteString", "internal/bytealg.IndexString"], unfollowed := true, recurses := true, named := ["unicode/utf8.first", "unicode/utf8.acceptRanges", "math/bits.deBruijn64tab", "internal/bytealg.MaxLen"], apart := false, laid := [("math/bits.deBruijn64tab", laid_math_bits_deBruijn64tab), ("unicode/utf8.acceptRanges", laid_unicode_utf8_acceptRanges), ("unicode/utf8.first", laid_unicode_utf8_first)], narrowed := true }
def ParadigmAgainUptoSaid : Prop := paradigmAgainUptoRow.holds Tryz.pinned (OpenSpec.upto paradigmAgainSpec)

/-- 'ablautlaw29.ParadigmClasses', WHERE WHAT IT READS IS OF BULK AT MOST 1048576: true; the input reads as it did. -/
def paradigmClassesUptoRow : OpenClaim := { program := "ytcpcojgmmpnkoaagreatdoor", sum := "c05e6722fb8b7477ad5584c2a6cb8ab2189c841766387500d56e8917c4ec9ac2", func := "ablaut/ablautlaw29.ParadigmClasses", spec := "paradigmClasses", inPlace := ["internal/bytealg.IndexByteString", "internal/bytealg.IndexString"], unfollowed := true, recurses := true, named := ["unicode/utf8.first", "unicode/utf8.acceptRanges", "math/bits.deBruijn64tab", "internal/bytealg.MaxLen"], apart := false, laid := [("math/bits.deBruijn64tab", laid_math_bits_deBruijn64tab), ("unicode/utf8.acceptRanges", laid_unicode_utf8_acceptRanges), ("unicode/utf8.first", laid_unicode_utf8_first)], narrowed := true }
def ParadigmClassesUptoSaid : Prop := paradigmClassesUptoRow.holds Tryz.pinned (OpenSpec.upto paradigmClassesSpec)

/-- 'ablautlaw29.ParadigmGrades', WHERE WHAT IT READS IS OF BULK AT MOST 1048576: true; the input reads as it did. -/
def paradigmGradesUptoRow : OpenClaim := { program := "ytcpcojgmmpnkoaagreatdoor", sum := "c05e6722fb8b7477ad5584c2a6cb8ab2189c841766387500d56e8917c4ec9ac2", func := "ablaut/ablautlaw29.ParadigmGrades", spec := "paradigmGrades", inPlace := ["internal/bytealg.IndexByteString", "internal/bytealg.IndexString"], unfollowed := true, recurses := true, named := ["unicode/utf8.first", "unicode/utf8.acceptRanges", "math/bits.deBruijn64tab", "internal/bytealg.MaxLen"], apart := false, laid := [("math/bits.deBruijn64tab", laid_math_bits_deBruijn64tab), ("unicode/utf8.acceptRanges", laid_unicode_utf8_acceptRanges), ("unicode/utf8.first", laid_unicode_utf8_first)], narrowed := true }
def ParadigmGradesUptoSaid : Prop := paradigmGradesUptoRow.holds Tryz.pinned (OpenSpec.upto paradigmGradesSpec)

/-- 'ablautlaw29.ParadigmBecomes', WHERE WHAT IT READS IS OF BULK AT MOST 1048576: true; the input reads as it did. -/
def paradigmBecomesUptoRow : OpenClaim := { program := "ytcpcojgmmpnkoaagreatdoor", sum := "c05e6722fb8b7477ad5584c2a6cb8ab2189c841766387500d56e8917c4ec9ac2", func := "ablaut/ablautlaw29.ParadigmBecomes", spec := "paradigmBecomes", inPlace := ["internal/bytealg.IndexByteString", "internal/bytealg.IndexString"], unfollowed := true, recurses := true, named := ["unicode/utf8.first", "unicode/utf8.acceptRanges", "math/bits.deBruijn64tab", "internal/bytealg.MaxLen"], loops := true, apart := false, laid := [("math/bits.deBruijn64tab", laid_math_bits_deBruijn64tab), ("unicode/utf8.acceptRanges", laid_unicode_utf8_acceptRanges), ("unicode/utf8.first", laid_unicode_utf8_first)], narrowed := true }
def ParadigmBecomesUptoSaid : Prop := paradigmBecomesUptoRow.holds Tryz.pinned (OpenSpec.upto paradigmBecomesSpec)

/-- 'ablautlaw29.ParadigmKnown', WHERE WHAT IT READS IS OF BULK AT MOST 1048576: true; the input reads as it did. -/
def paradigmKnownUptoRow : OpenClaim := { program := "ytcpcojgmmpnkoaagreatdoor", sum := "c05e6722fb8b7477ad5584c2a6cb8ab2189c841766387500d56e8917c4ec9ac2", func := "ablaut/ablautlaw29.ParadigmKnown", spec := "paradigmKnown", inPlace := ["internal/bytealg.IndexByteString", "internal/bytealg.IndexString"], unfollowed := true, recurses := true, named := ["unicode/utf8.first", "unicode/utf8.acceptRanges", "math/bits.deBruijn64tab", "internal/bytealg.MaxLen"], apart := false, laid := [("math/bits.deBruijn64tab", laid_math_bits_deBruijn64tab), ("unicode/utf8.acceptRanges", laid_unicode_utf8_acceptRanges), ("unicode/utf8.first", laid_unicode_utf8_first)], narrowed := true }
def ParadigmKnownUptoSaid : Prop := paradigmKnownUptoRow.holds Tryz.pinned (OpenSpec.upto paradigmKnownSpec)

end Rows
end Go.Proofs.YtcpcojgmmpnkoaaGreatDoor

/-
  NARROWER THAN 'FOR EVERY INPUT', by the rows' own cells (each row's printed sentence says how): DeriveKnown: laid · ParadigmKnown: laid · InverseBacks: loops, laid · InverseImages: loops, laid · InverseFixes: loops, laid · InverseLoses: loops, laid · InverseFixed: loops, laid · InverseAlls: loops, laid · InverseThere: loops, laid · InverseNothing: laid · InverseBackAgain: loops, laid · InverseRefuses: laid.
  DERIVED. THE GIVEN ROWS OF THIS SEAT. 12 by the template 'for every input the law returns true; each argument reads behind the call as it read before'; 0 by the template 'total and deterministic' (their statements: YtlgliddhideflaaGreatDoorTotals.lean).
  GIVEN WITH THE SEED: the statements are not yours to turn. If you find one false, say at which input.
  Laid BY PROGRAM, IN A SANDBOX (cutbox-rows.mjs): the forced cells as the released guide's own fill.sh prints them over the translation dd085c944009d7ff… (all of the seat's roots in one cut). By AI agents, Wed Nov 11 2026. No macro, syntax, notation, axiom, sorry.
-/
import Derived.Test.YtlgliddhideflaaGreatDoorChecked
import GoSem.PinnedTables
import GoSem.Claim
import GoSem.ClaimJoined
import GoSem.ClaimMapViews
import Derived.JoinedTies
import Derived.KernelRfl
namespace Go.Proofs.YtlgliddhideflaaGreatDoor
/- THE CELL 'sum', in the pinned program and in every row, IS THE sha256 OF THE DUMP (.gsa) THAT YtlgliddhideflaaGreatDoorProg.lean LOADS. Nothing in Lean hashes anything: it is a label: what it is worth is what the hold of that sum in a sandbox is worth. -/
noncomputable def Tryz.pinned : Pinned := { name := "ytlgliddhideflaagreatdoor", sum := "dd085c944009d7ff89b45c112ad20a94edfb50f5783c43d50a8f4a9c0d0eaaec", checked := Tryz.checked }
namespace Rows
def none {H : Type} : Left H := { results := [], args := [] }

/- WHAT THE LISTED PACKAGE-LEVEL VARIABLES READ AS WHEN THE CALL BEGINS. Each datum BY PROGRAM (the guide's laid-datum.mjs) off the statement by which the dump's own 'gosem.cut.vars' lays the variable. In a bare row this is a premise. The card (YtlgliddhideflaaGreatDoorCards.lean) ties it to the program's text. -/
def laid_math_bits_deBruijn64tab {H : Type} : DataW H := .agg [.lit (.int .u8 0), .lit (.int .u8 1), .lit (.int .u8 56), .lit (.int .u8 2), .lit (.int .u8 57), .lit (.int .u8 49), .lit (.int .u8 28), .lit (.int .u8 3), .lit (.int .u8 61), .lit (.int .u8 58), .lit (.int .u8 42), .lit (.int .u8 50), .lit (.int .u8 38), .lit (.int .u8 29), .lit (.int .u8 17), .lit (.int .u8 4), .lit (.int .u8 62), .lit (.int .u8 47), .lit (.int .u8 59), .lit (.int .u8 36), .lit (.int .u8 45), .lit (.int .u8 43), .lit (.int .u8 51), .lit (.int .u8 22), .lit (.int .u8 53), .lit (.int .u8 39), .lit (.int .u8 33), .lit (.int .u8 30), .lit (.int .u8 24), .lit (.int .u8 18), .lit (.int .u8 12), .lit (.int .u8 5), .lit (.int .u8 63), .lit (.int .u8 55), .lit (.int .u8 48), .lit (.int .u8 27), .lit (.int .u8 60), .lit (.int .u8 41), .lit (.int .u8 37), .lit (.int .u8 16), .lit (.int .u8 46), .lit (.int .u8 35), .lit (.int .u8 44), .lit (.int .u8 21), .lit (.int .u8 52), .lit (.int .u8 32), .lit (.int .u8 23), .lit (.int .u8 11), .lit (.int .u8 54), .lit (.int .u8 26), .lit (.int .u8 40), .lit (.int .u8 15), .lit (.int .u8 34), .lit (.int .u8 20), .lit (.int .u8 31), .lit (.int .u8 10), .lit (.int .u8 25), .lit (.int .u8 14), .lit (.int .u8 19), .lit (.int .u8 9), .lit (.int .u8 13), .lit (.int .u8 8), .lit (.int .u8 7), .lit (.int .u8 6)]
def laid_unicode_utf8_acceptRanges {H : Type} : DataW H := .agg [.agg [.lit (.int .u8 128), .lit (.int .u8 191)], .agg [.lit (.int .u8 160), .lit (.int .u8 191)], .agg [.lit (.int .u8 128), .lit (.int .u8 159)], .agg [.lit (.int .u8 144), .lit (.int .u8 191)], .agg [.lit (.int .u8 128), .lit (.int .u8 143)], .agg [.lit (.int .u8 0), .lit (.int .u8 0)], .agg [.lit (.int .u8 0), .lit (.int .u8 0)], .agg [.lit (.int .u8 0), .lit (.int .u8 0)], .agg [.lit (.int .u8 0), .lit (.int .u8 0)], .agg [.lit (.int .u8 0), .lit (.int .u8 0)], .agg [.lit (.int .u8 0), .lit (.int .u8 0)], .agg [.lit (.int .u8 0), .lit (.int .u8 0)], .agg [.lit (.int .u8 0), .lit (.int .u8 0)], .agg [.lit (.int .u8 0), .lit (.int .u8 0)], .agg [.lit (.int .u8 0), .lit (.int .u8 0)], .agg [.lit (.int .u8 0), .lit (.int .u8 0)]]
/-- One of Go's own tables, pinned by name: the form's constant. -/
def laid_unicode_utf8_first : DataW Unit := Go.Pinned.utf8First

/-- 'ablautlaw10.DeriveKnown': WHATEVER THE INPUT: true; the input reads as it did. -/
def deriveKnownSpec : ChangeSpec := { name := "deriveKnown", fn := fun _ => fun
  | [] => { results := [.lit (.bool true)], args := [] }
  | _ => none }
def deriveKnownRow : OpenClaim := { program := "ytlgliddhideflaagreatdoor", sum := "dd085c944009d7ff89b45c112ad20a94edfb50f5783c43d50a8f4a9c0d0eaaec", func := "ablaut/ablautlaw10.DeriveKnown", spec := "deriveKnown", inPlace := ["internal/bytealg.IndexByteString", "internal/bytealg.IndexString"], unfollowed := true, recurses := true, named := ["unicode/utf8.first", "unicode/utf8.acceptRanges", "math/bits.deBruijn64tab", "internal/bytealg.MaxLen"], apart := false, laid := [("math/bits.deBruijn64tab", laid_math_bits_deBruijn64tab), ("unicode/utf8.acceptRanges", laid_unicode_utf8_acceptRanges), ("unicode/utf8.first", laid_unicode_utf8_first)] }
def DeriveKnownSaid : Prop := deriveKnownRow.holds Tryz.pinned (OpenSpec.ofChange deriveKnownSpec)

/-- ITS FALSE NEIGHBOUR: 'it returns false'. Refute it at one input. -/
def deriveKnownWrong : ChangeSpec := { name := "deriveKnown", fn := fun _ => fun
  | [] => { results := [.lit (.bool false)], args := [] }
  | _ => none }
def DeriveKnownWrongFalsely : Prop := deriveKnownRow.holds Tryz.pinned (OpenSpec.ofChange deriveKnownWrong)

/-- 'ablautlaw29.ParadigmKnown': WHATEVER THE INPUT: true; the input reads as it did. -/
def paradigmKnownSpec : ChangeSpec := { name := "paradigmKnown", fn := fun _ => fun
  | [] => { results := [.lit (.bool true)], args := [] }
  | _ => none }
def paradigmKnownRow : OpenClaim := { program := "ytlgliddhideflaagreatdoor", sum := "dd085c944009d7ff89b45c112ad20a94edfb50f5783c43d50a8f4a9c0d0eaaec", func := "ablaut/ablautlaw29.ParadigmKnown", spec := "paradigmKnown", inPlace := ["internal/bytealg.IndexByteString", "internal/bytealg.IndexString"], unfollowed := true, recurses := true, named := ["unicode/utf8.first", "unicode/utf8.acceptRanges", "math/bits.deBruijn64tab", "internal/bytealg.MaxLen"], apart := false, laid := [("math/bits.deBruijn64tab", laid_math_bits_deBruijn64tab), ("unicode/utf8.acceptRanges", laid_unicode_utf8_acceptRanges), ("unicode/utf8.first", laid_unicode_utf8_first)] }
def ParadigmKnownSaid : Prop := paradigmKnownRow.holds Tryz.pinned (OpenSpec.ofChange paradigmKnownSpec)

/-- ITS FALSE NEIGHBOUR: 'it returns false'. Refute it at one input. -/
def paradigmKnownWrong : ChangeSpec := { name := "paradigmKnown", fn := fun _ => fun
  | [] => { results := [.lit (.bool false)], args := [] }
  | _ => none }
def ParadigmKnownWrongFalsely : Prop := paradigmKnownRow.holds Tryz.pinned (OpenSpec.ofChange paradigmKnownWrong)

/-- 'ablautlaw11.InverseBacks': WHATEVER THE INPUT: true; the input reads as it did. -/
def inverseBacksSpec : ChangeSpec := { name := "inverseBacks", fn := fun _ => fun
  | [d1, d2, d3, d4] => { results := [.lit (.bool true)], args := [d1, d2, d3, d4] }
  | _ => none }
def inverseBacksRow : OpenClaim := { program := "ytlgliddhideflaagreatdoor", sum := "dd085c944009d7ff89b45c112ad20a94edfb50f5783c43d50a8f4a9c0d0eaaec", func := "ablaut/ablautlaw11.InverseBacks", spec := "inverseBacks", inPlace := ["internal/bytealg.IndexByteString", "internal/bytealg.IndexString", "internal/abi.NoEscape"], unfollowed := true, recurses := true, named := ["unicode/utf8.first", "unicode/utf8.acceptRanges", "math/bits.deBruijn64tab", "internal/bytealg.MaxLen"], loops := true, apart := false, laid := [("math/bits.deBruijn64tab", laid_math_bits_deBruijn64tab), ("unicode/utf8.acceptRanges", laid_unicode_utf8_acceptRanges), ("unicode/utf8.first", laid_unicode_utf8_first)] }
def InverseBacksSaid : Prop := inverseBacksRow.holds Tryz.pinned (OpenSpec.ofChange inverseBacksSpec)

/-- ITS FALSE NEIGHBOUR: 'it returns false'. Refute it at one input. -/
def inverseBacksWrong : ChangeSpec := { name := "inverseBacks", fn := fun _ => fun
  | [d1, d2, d3, d4] => { results := [.lit (.bool false)], args := [d1, d2, d3, d4] }
  | _ => none }
def InverseBacksWrongFalsely : Prop := inverseBacksRow.holds Tryz.pinned (OpenSpec.ofChange inverseBacksWrong)

/-- 'ablautlaw11.InverseImages': WHATEVER THE INPUT: true; the input reads as it did. -/
def inverseImagesSpec : ChangeSpec := { name := "inverseImages", fn := fun _ => fun
  | [d1, d2, d3] => { results := [.lit (.bool true)], args := [d1, d2, d3] }
  | _ => none }
def inverseImagesRow : OpenClaim := { program := "ytlgliddhideflaagreatdoor", sum := "dd085c944009d7ff89b45c112ad20a94edfb50f5783c43d50a8f4a9c0d0eaaec", func := "ablaut/ablautlaw11.InverseImages", spec := "inverseImages", inPlace := ["internal/bytealg.IndexByteString", "internal/bytealg.IndexString", "internal/abi.NoEscape"], unfollowed := true, recurses := true, named := ["unicode/utf8.first", "unicode/utf8.acceptRanges", "math/bits.deBruijn64tab", "internal/bytealg.MaxLen"], loops := true, apart := false, laid := [("math/bits.deBruijn64tab", laid_math_bits_deBruijn64tab), ("unicode/utf8.acceptRanges", laid_unicode_utf8_acceptRanges), ("unicode/utf8.first", laid_unicode_utf8_first)] }
def InverseImagesSaid : Prop := inverseImagesRow.holds Tryz.pinned (OpenSpec.ofChange inverseImagesSpec)

/-- ITS FALSE NEIGHBOUR: 'it returns false'. Refute it at one input. -/
def inverseImagesWrong : ChangeSpec := { name := "inverseImages", fn := fun _ => fun
  | [d1, d2, d3] => { results := [.lit (.bool false)], args := [d1, d2, d3] }
  | _ => none }
def InverseImagesWrongFalsely : Prop := inverseImagesRow.holds Tryz.pinned (OpenSpec.ofChange inverseImagesWrong)

/-- 'ablautlaw11.InverseFixes': WHATEVER THE INPUT: true; the input reads as it did. -/
def inverseFixesSpec : ChangeSpec := { name := "inverseFixes", fn := fun _ => fun
  | [d1, d2, d3] => { results := [.lit (.bool true)], args := [d1, d2, d3] }
  | _ => none }
def inverseFixesRow : OpenClaim := { program := "ytlgliddhideflaagreatdoor", sum := "dd085c944009d7ff89b45c112ad20a94edfb50f5783c43d50a8f4a9c0d0eaaec", func := "ablaut/ablautlaw11.InverseFixes", spec := "inverseFixes", inPlace := ["internal/bytealg.IndexByteString", "internal/bytealg.IndexString", "internal/abi.NoEscape"], unfollowed := true, recurses := true, named := ["unicode/utf8.first", "unicode/utf8.acceptRanges", "math/bits.deBruijn64tab", "internal/bytealg.MaxLen"], loops := true, apart := false, laid := [("math/bits.deBruijn64tab", laid_math_bits_deBruijn64tab), ("unicode/utf8.acceptRanges", laid_unicode_utf8_acceptRanges), ("unicode/utf8.first", laid_unicode_utf8_first)] }
def InverseFixesSaid : Prop := inverseFixesRow.holds Tryz.pinned (OpenSpec.ofChange inverseFixesSpec)

/-- ITS FALSE NEIGHBOUR: 'it returns false'. Refute it at one input. -/
def inverseFixesWrong : ChangeSpec := { name := "inverseFixes", fn := fun _ => fun
  | [d1, d2, d3] => { results := [.lit (.bool false)], args := [d1, d2, d3] }
  | _ => none }
def InverseFixesWrongFalsely : Prop := inverseFixesRow.holds Tryz.pinned (OpenSpec.ofChange inverseFixesWrong)

/-- 'ablautlaw11.InverseLoses': WHATEVER THE INPUT: true; the input reads as it did. -/
def inverseLosesSpec : ChangeSpec := { name := "inverseLoses", fn := fun _ => fun
  | [d1, d2, d3] => { results := [.lit (.bool true)], args := [d1, d2, d3] }
  | _ => none }
def inverseLosesRow : OpenClaim := { program := "ytlgliddhideflaagreatdoor", sum := "dd085c944009d7ff89b45c112ad20a94edfb50f5783c43d50a8f4a9c0d0eaaec", func := "ablaut/ablautlaw11.InverseLoses", spec := "inverseLoses", inPlace := ["internal/bytealg.IndexByteString", "internal/bytealg.IndexString", "internal/abi.NoEscape"], unfollowed := true, recurses := true, named := ["unicode/utf8.first", "unicode/utf8.acceptRanges", "math/bits.deBruijn64tab", "internal/bytealg.MaxLen"], loops := true, apart := false, laid := [("math/bits.deBruijn64tab", laid_math_bits_deBruijn64tab), ("unicode/utf8.acceptRanges", laid_unicode_utf8_acceptRanges), ("unicode/utf8.first", laid_unicode_utf8_first)] }
def InverseLosesSaid : Prop := inverseLosesRow.holds Tryz.pinned (OpenSpec.ofChange inverseLosesSpec)

/-- ITS FALSE NEIGHBOUR: 'it returns false'. Refute it at one input. -/
def inverseLosesWrong : ChangeSpec := { name := "inverseLoses", fn := fun _ => fun
  | [d1, d2, d3] => { results := [.lit (.bool false)], args := [d1, d2, d3] }
  | _ => none }
def InverseLosesWrongFalsely : Prop := inverseLosesRow.holds Tryz.pinned (OpenSpec.ofChange inverseLosesWrong)

/-- 'ablautlaw11.InverseFixed': WHATEVER THE INPUT: true; the input reads as it did. -/
def inverseFixedSpec : ChangeSpec := { name := "inverseFixed", fn := fun _ => fun
  | [d1, d2, d3] => { results := [.lit (.bool true)], args := [d1, d2, d3] }
  | _ => none }
def inverseFixedRow : OpenClaim := { program := "ytlgliddhideflaagreatdoor", sum := "dd085c944009d7ff89b45c112ad20a94edfb50f5783c43d50a8f4a9c0d0eaaec", func := "ablaut/ablautlaw11.InverseFixed", spec := "inverseFixed", inPlace := ["internal/bytealg.IndexByteString", "internal/bytealg.IndexString", "internal/abi.NoEscape"], unfollowed := true, recurses := true, named := ["unicode/utf8.first", "unicode/utf8.acceptRanges", "math/bits.deBruijn64tab", "internal/bytealg.MaxLen"], loops := true, apart := false, laid := [("math/bits.deBruijn64tab", laid_math_bits_deBruijn64tab), ("unicode/utf8.acceptRanges", laid_unicode_utf8_acceptRanges), ("unicode/utf8.first", laid_unicode_utf8_first)] }
def InverseFixedSaid : Prop := inverseFixedRow.holds Tryz.pinned (OpenSpec.ofChange inverseFixedSpec)

/-- ITS FALSE NEIGHBOUR: 'it returns false'. Refute it at one input. -/
def inverseFixedWrong : ChangeSpec := { name := "inverseFixed", fn := fun _ => fun
  | [d1, d2, d3] => { results := [.lit (.bool false)], args := [d1, d2, d3] }
  | _ => none }
def InverseFixedWrongFalsely : Prop := inverseFixedRow.holds Tryz.pinned (OpenSpec.ofChange inverseFixedWrong)

/-- 'ablautlaw11.InverseAlls': WHATEVER THE INPUT: true; the input reads as it did. -/
def inverseAllsSpec : ChangeSpec := { name := "inverseAlls", fn := fun _ => fun
  | [d1, d2, d3, d4] => { results := [.lit (.bool true)], args := [d1, d2, d3, d4] }
  | _ => none }
def inverseAllsRow : OpenClaim := { program := "ytlgliddhideflaagreatdoor", sum := "dd085c944009d7ff89b45c112ad20a94edfb50f5783c43d50a8f4a9c0d0eaaec", func := "ablaut/ablautlaw11.InverseAlls", spec := "inverseAlls", inPlace := ["internal/bytealg.IndexByteString", "internal/bytealg.IndexString", "internal/abi.NoEscape"], unfollowed := true, recurses := true, named := ["unicode/utf8.first", "unicode/utf8.acceptRanges", "math/bits.deBruijn64tab", "internal/bytealg.MaxLen"], loops := true, apart := false, laid := [("math/bits.deBruijn64tab", laid_math_bits_deBruijn64tab), ("unicode/utf8.acceptRanges", laid_unicode_utf8_acceptRanges), ("unicode/utf8.first", laid_unicode_utf8_first)] }
def InverseAllsSaid : Prop := inverseAllsRow.holds Tryz.pinned (OpenSpec.ofChange inverseAllsSpec)

/-- ITS FALSE NEIGHBOUR: 'it returns false'. Refute it at one input. -/
def inverseAllsWrong : ChangeSpec := { name := "inverseAlls", fn := fun _ => fun
  | [d1, d2, d3, d4] => { results := [.lit (.bool false)], args := [d1, d2, d3, d4] }
  | _ => none }
def InverseAllsWrongFalsely : Prop := inverseAllsRow.holds Tryz.pinned (OpenSpec.ofChange inverseAllsWrong)

/-- 'ablautlaw11.InverseThere': WHATEVER THE INPUT: true; the input reads as it did. -/
def inverseThereSpec : ChangeSpec := { name := "inverseThere", fn := fun _ => fun
  | [d1, d2, d3, d4] => { results := [.lit (.bool true)], args := [d1, d2, d3, d4] }
  | _ => none }
def inverseThereRow : OpenClaim := { program := "ytlgliddhideflaagreatdoor", sum := "dd085c944009d7ff89b45c112ad20a94edfb50f5783c43d50a8f4a9c0d0eaaec", func := "ablaut/ablautlaw11.InverseThere", spec := "inverseThere", inPlace := ["internal/bytealg.IndexByteString", "internal/bytealg.IndexString", "internal/abi.NoEscape"], unfollowed := true, recurses := true, named := ["unicode/utf8.first", "unicode/utf8.acceptRanges", "math/bits.deBruijn64tab", "internal/bytealg.MaxLen"], loops := true, apart := false, laid := [("math/bits.deBruijn64tab", laid_math_bits_deBruijn64tab), ("unicode/utf8.acceptRanges", laid_unicode_utf8_acceptRanges), ("unicode/utf8.first", laid_unicode_utf8_first)] }
def InverseThereSaid : Prop := inverseThereRow.holds Tryz.pinned (OpenSpec.ofChange inverseThereSpec)

/-- ITS FALSE NEIGHBOUR: 'it returns false'. Refute it at one input. -/
def inverseThereWrong : ChangeSpec := { name := "inverseThere", fn := fun _ => fun
  | [d1, d2, d3, d4] => { results := [.lit (.bool false)], args := [d1, d2, d3, d4] }
  | _ => none }
def InverseThereWrongFalsely : Prop := inverseThereRow.holds Tryz.pinned (OpenSpec.ofChange inverseThereWrong)

/-- 'ablautlaw11.InverseNothing': WHATEVER THE INPUT: true; the input reads as it did. -/
def inverseNothingSpec : ChangeSpec := { name := "inverseNothing", fn := fun _ => fun
  | [d1, d2, d3] => { results := [.lit (.bool true)], args := [d1, d2, d3] }
  | _ => none }
def inverseNothingRow : OpenClaim := { program := "ytlgliddhideflaagreatdoor", sum := "dd085c944009d7ff89b45c112ad20a94edfb50f5783c43d50a8f4a9c0d0eaaec", func := "ablaut/ablautlaw11.InverseNothing", spec := "inverseNothing", inPlace := ["internal/bytealg.IndexByteString", "internal/bytealg.IndexString", "internal/abi.NoEscape"], unfollowed := true, recurses := true, named := ["unicode/utf8.first", "unicode/utf8.acceptRanges", "math/bits.deBruijn64tab", "internal/bytealg.MaxLen"], apart := false, laid := [("math/bits.deBruijn64tab", laid_math_bits_deBruijn64tab), ("unicode/utf8.acceptRanges", laid_unicode_utf8_acceptRanges), ("unicode/utf8.first", laid_unicode_utf8_first)] }
def InverseNothingSaid : Prop := inverseNothingRow.holds Tryz.pinned (OpenSpec.ofChange inverseNothingSpec)

/-- ITS FALSE NEIGHBOUR: 'it returns false'. Refute it at one input. -/
def inverseNothingWrong : ChangeSpec := { name := "inverseNothing", fn := fun _ => fun
  | [d1, d2, d3] => { results := [.lit (.bool false)], args := [d1, d2, d3] }
  | _ => none }
def InverseNothingWrongFalsely : Prop := inverseNothingRow.holds Tryz.pinned (OpenSpec.ofChange inverseNothingWrong)

/-- 'ablautlaw11.InverseBackAgain': WHATEVER THE INPUT: true; the input reads as it did. -/
def inverseBackAgainSpec : ChangeSpec := { name := "inverseBackAgain", fn := fun _ => fun
  | [d1, d2, d3] => { results := [.lit (.bool true)], args := [d1, d2, d3] }
  | _ => none }
def inverseBackAgainRow : OpenClaim := { program := "ytlgliddhideflaagreatdoor", sum := "dd085c944009d7ff89b45c112ad20a94edfb50f5783c43d50a8f4a9c0d0eaaec", func := "ablaut/ablautlaw11.InverseBackAgain", spec := "inverseBackAgain", inPlace := ["internal/bytealg.IndexByteString", "internal/bytealg.IndexString", "internal/abi.NoEscape"], unfollowed := true, recurses := true, named := ["unicode/utf8.first", "unicode/utf8.acceptRanges", "math/bits.deBruijn64tab", "internal/bytealg.MaxLen"], loops := true, apart := false, laid := [("math/bits.deBruijn64tab", laid_math_bits_deBruijn64tab), ("unicode/utf8.acceptRanges", laid_unicode_utf8_acceptRanges), ("unicode/utf8.first", laid_unicode_utf8_first)] }
def InverseBackAgainSaid : Prop := inverseBackAgainRow.holds Tryz.pinned (OpenSpec.ofChange inverseBackAgainSpec)

/-- ITS FALSE NEIGHBOUR: 'it returns false'. Refute it at one input. -/
def inverseBackAgainWrong : ChangeSpec := { name := "inverseBackAgain", fn := fun _ => fun
  | [d1, d2, d3] => { results := [.lit (.bool false)], args := [d1, d2, d3] }
  | _ => none }
def InverseBackAgainWrongFalsely : Prop := inverseBackAgainRow.holds Tryz.pinned (OpenSpec.ofChange inverseBackAgainWrong)

/-- 'ablautlaw11.InverseRefuses': WHATEVER THE INPUT: true; the input reads as it did. -/
def inverseRefusesSpec : ChangeSpec := { name := "inverseRefuses", fn := fun _ => fun
  | [d1, d2, d3] => { results := [.lit (.bool true)], args := [d1, d2, d3] }
  | _ => none }
def inverseRefusesRow : OpenClaim := { program := "ytlgliddhideflaagreatdoor", sum := "dd085c944009d7ff89b45c112ad20a94edfb50f5783c43d50a8f4a9c0d0eaaec", func := "ablaut/ablautlaw11.InverseRefuses", spec := "inverseRefuses", inPlace := ["internal/bytealg.IndexByteString", "internal/bytealg.IndexString", "internal/abi.NoEscape"], unfollowed := true, recurses := true, named := ["unicode/utf8.first", "unicode/utf8.acceptRanges", "math/bits.deBruijn64tab", "internal/bytealg.MaxLen"], apart := false, laid := [("math/bits.deBruijn64tab", laid_math_bits_deBruijn64tab), ("unicode/utf8.acceptRanges", laid_unicode_utf8_acceptRanges), ("unicode/utf8.first", laid_unicode_utf8_first)] }
def InverseRefusesSaid : Prop := inverseRefusesRow.holds Tryz.pinned (OpenSpec.ofChange inverseRefusesSpec)

/-- ITS FALSE NEIGHBOUR: 'it returns false'. Refute it at one input. -/
def inverseRefusesWrong : ChangeSpec := { name := "inverseRefuses", fn := fun _ => fun
  | [d1, d2, d3] => { results := [.lit (.bool false)], args := [d1, d2, d3] }
  | _ => none }
def InverseRefusesWrongFalsely : Prop := inverseRefusesRow.holds Tryz.pinned (OpenSpec.ofChange inverseRefusesWrong)

/- THE SECOND FORM. 'bulk': how many values and letters a reading holds, each counted each time it is reached (what is shared counts as often as it is met; a slice's spare places count too). A statement '..UptoSaid' is the law's where the arguments, and the package variables that the reading takes, are together of bulk at most 1048576: NARROWER than '..Said'. Prove '..Said' where nothing that the law and all that it calls make is longer than what came in: it says more and counts as full. Else prove '..UptoSaid'. A law counts once. -/
mutual
def uptoBulk {H : Type} : DataW H → Nat
  | .lit (.string bytes) => bytes.length + 1
  | .lit _ => 1
  | .nil => 1
  | .ptr d => uptoBulk d + 1
  | .slice elems spare => uptoBulkAll elems + uptoBulkAll spare + 1
  | .agg parts => uptoBulkAll parts + 1
  | .iface _ d => uptoBulk d + 1
  | .map entries => uptoBulkEntries entries + 1
  | .held _ => 1
def uptoBulkAll {H : Type} : List (DataW H) → Nat
  | [] => 0
  | d :: r => uptoBulk d + uptoBulkAll r
def uptoBulkEntries {H : Type} : List (Lit × DataW H) → Nat
  | [] => 0
  | x :: r => uptoBulkEntry x + uptoBulkEntries r
def uptoBulkEntry {H : Type} : Lit × DataW H → Nat
  | (.string bytes, d) => bytes.length + uptoBulk d + 1
  | (_, d) => uptoBulk d + 1
 end
def uptoSmall : (H : Type) → List (DataW H) → Bool := fun _ ds => decide (uptoBulkAll ds ≤ 1048576)
def OpenSpec.upto (s : _root_.Go.ChangeSpec) : _root_.Go.OpenSpec := { _root_.Go.OpenSpec.ofChange s with cond := some uptoSmall }

/-- 'ablautlaw10.DeriveKnown', WHERE WHAT IT READS IS OF BULK AT MOST 1048576: true; the input reads as it did. -/
def deriveKnownUptoRow : OpenClaim := { program := "ytlgliddhideflaagreatdoor", sum := "dd085c944009d7ff89b45c112ad20a94edfb50f5783c43d50a8f4a9c0d0eaaec", func := "ablaut/ablautlaw10.DeriveKnown", spec := "deriveKnown", inPlace := ["internal/bytealg.IndexByteString", "internal/bytealg.IndexString"], unfollowed := true, recurses := true, named := ["unicode/utf8.first", "unicode/utf8.acceptRanges", "math/bits.deBruijn64tab", "internal/bytealg.MaxLen"], apart := false, laid := [("math/bits.deBruijn64tab", laid_math_bits_deBruijn64tab), ("unicode/utf8.acceptRanges", laid_unicode_utf8_acceptRanges), ("unicode/utf8.first", laid_unicode_utf8_first)], narrowed := true }
def DeriveKnownUptoSaid : Prop := deriveKnownUptoRow.holds Tryz.pinned (OpenSpec.upto deriveKnownSpec)

/-- 'ablautlaw29.ParadigmKnown', WHERE WHAT IT READS IS OF BULK AT MOST 1048576: true; the input reads as it did. -/
def paradigmKnownUptoRow : OpenClaim := { program := "ytlgliddhideflaagreatdoor", sum := "dd085c944009d7ff89b45c112ad20a94edfb50f5783c43d50a8f4a9c0d0eaaec", func := "ablaut/ablautlaw29.ParadigmKnown", spec := "paradigmKnown", inPlace := ["internal/bytealg.IndexByteString", "internal/bytealg.IndexString"], unfollowed := true, recurses := true, named := ["unicode/utf8.first", "unicode/utf8.acceptRanges", "math/bits.deBruijn64tab", "internal/bytealg.MaxLen"], apart := false, laid := [("math/bits.deBruijn64tab", laid_math_bits_deBruijn64tab), ("unicode/utf8.acceptRanges", laid_unicode_utf8_acceptRanges), ("unicode/utf8.first", laid_unicode_utf8_first)], narrowed := true }
def ParadigmKnownUptoSaid : Prop := paradigmKnownUptoRow.holds Tryz.pinned (OpenSpec.upto paradigmKnownSpec)

/-- 'ablautlaw11.InverseBacks', WHERE WHAT IT READS IS OF BULK AT MOST 1048576: true; the input reads as it did. -/
def inverseBacksUptoRow : OpenClaim := { program := "ytlgliddhideflaagreatdoor", sum := "dd085c944009d7ff89b45c112ad20a94edfb50f5783c43d50a8f4a9c0d0eaaec", func := "ablaut/ablautlaw11.InverseBacks", spec := "inverseBacks", inPlace := ["internal/bytealg.IndexByteString", "internal/bytealg.IndexString", "internal/abi.NoEscape"], unfollowed := true, recurses := true, named := ["unicode/utf8.first", "unicode/utf8.acceptRanges", "math/bits.deBruijn64tab", "internal/bytealg.MaxLen"], loops := true, apart := false, laid := [("math/bits.deBruijn64tab", laid_math_bits_deBruijn64tab), ("unicode/utf8.acceptRanges", laid_unicode_utf8_acceptRanges), ("unicode/utf8.first", laid_unicode_utf8_first)], narrowed := true }
def InverseBacksUptoSaid : Prop := inverseBacksUptoRow.holds Tryz.pinned (OpenSpec.upto inverseBacksSpec)

/-- 'ablautlaw11.InverseImages', WHERE WHAT IT READS IS OF BULK AT MOST 1048576: true; the input reads as it did. -/
def inverseImagesUptoRow : OpenClaim := { program := "ytlgliddhideflaagreatdoor", sum := "dd085c944009d7ff89b45c112ad20a94edfb50f5783c43d50a8f4a9c0d0eaaec", func := "ablaut/ablautlaw11.InverseImages", spec := "inverseImages", inPlace := ["internal/bytealg.IndexByteString", "internal/bytealg.IndexString", "internal/abi.NoEscape"], unfollowed := true, recurses := true, named := ["unicode/utf8.first", "unicode/utf8.acceptRanges", "math/bits.deBruijn64tab", "internal/bytealg.MaxLen"], loops := true, apart := false, laid := [("math/bits.deBruijn64tab", laid_math_bits_deBruijn64tab), ("unicode/utf8.acceptRanges", laid_unicode_utf8_acceptRanges), ("unicode/utf8.first", laid_unicode_utf8_first)], narrowed := true }
def InverseImagesUptoSaid : Prop := inverseImagesUptoRow.holds Tryz.pinned (OpenSpec.upto inverseImagesSpec)

/-- 'ablautlaw11.InverseFixes', WHERE WHAT IT READS IS OF BULK AT MOST 1048576: true; the input reads as it did. -/
def inverseFixesUptoRow : OpenClaim := { program := "ytlgliddhideflaagreatdoor", sum := "dd085c944009d7ff89b45c112ad20a94edfb50f5783c43d50a8f4a9c0d0eaaec", func := "ablaut/ablautlaw11.InverseFixes", spec := "inverseFixes", inPlace := ["internal/bytealg.IndexByteString", "internal/bytealg.IndexString", "internal/abi.NoEscape"], unfollowed := true, recurses := true, named := ["unicode/utf8.first", "unicode/utf8.acceptRanges", "math/bits.deBruijn64tab", "internal/bytealg.MaxLen"], loops := true, apart := false, laid := [("math/bits.deBruijn64tab", laid_math_bits_deBruijn64tab), ("unicode/utf8.acceptRanges", laid_unicode_utf8_acceptRanges), ("unicode/utf8.first", laid_unicode_utf8_first)], narrowed := true }
def InverseFixesUptoSaid : Prop := inverseFixesUptoRow.holds Tryz.pinned (OpenSpec.upto inverseFixesSpec)

/-- 'ablautlaw11.InverseLoses', WHERE WHAT IT READS IS OF BULK AT MOST 1048576: true; the input reads as it did. -/
def inverseLosesUptoRow : OpenClaim := { program := "ytlgliddhideflaagreatdoor", sum := "dd085c944009d7ff89b45c112ad20a94edfb50f5783c43d50a8f4a9c0d0eaaec", func := "ablaut/ablautlaw11.InverseLoses", spec := "inverseLoses", inPlace := ["internal/bytealg.IndexByteString", "internal/bytealg.IndexString", "internal/abi.NoEscape"], unfollowed := true, recurses := true, named := ["unicode/utf8.first", "unicode/utf8.acceptRanges", "math/bits.deBruijn64tab", "internal/bytealg.MaxLen"], loops := true, apart := false, laid := [("math/bits.deBruijn64tab", laid_math_bits_deBruijn64tab), ("unicode/utf8.acceptRanges", laid_unicode_utf8_acceptRanges), ("unicode/utf8.first", laid_unicode_utf8_first)], narrowed := true }
def InverseLosesUptoSaid : Prop := inverseLosesUptoRow.holds Tryz.pinned (OpenSpec.upto inverseLosesSpec)

/-- 'ablautlaw11.InverseFixed', WHERE WHAT IT READS IS OF BULK AT MOST 1048576: true; the input reads as it did. -/
def inverseFixedUptoRow : OpenClaim := { program := "ytlgliddhideflaagreatdoor", sum := "dd085c944009d7ff89b45c112ad20a94edfb50f5783c43d50a8f4a9c0d0eaaec", func := "ablaut/ablautlaw11.InverseFixed", spec := "inverseFixed", inPlace := ["internal/bytealg.IndexByteString", "internal/bytealg.IndexString", "internal/abi.NoEscape"], unfollowed := true, recurses := true, named := ["unicode/utf8.first", "unicode/utf8.acceptRanges", "math/bits.deBruijn64tab", "internal/bytealg.MaxLen"], loops := true, apart := false, laid := [("math/bits.deBruijn64tab", laid_math_bits_deBruijn64tab), ("unicode/utf8.acceptRanges", laid_unicode_utf8_acceptRanges), ("unicode/utf8.first", laid_unicode_utf8_first)], narrowed := true }
def InverseFixedUptoSaid : Prop := inverseFixedUptoRow.holds Tryz.pinned (OpenSpec.upto inverseFixedSpec)

/-- 'ablautlaw11.InverseAlls', WHERE WHAT IT READS IS OF BULK AT MOST 1048576: true; the input reads as it did. -/
def inverseAllsUptoRow : OpenClaim := { program := "ytlgliddhideflaagreatdoor", sum := "dd085c944009d7ff89b45c112ad20a94edfb50f5783c43d50a8f4a9c0d0eaaec", func := "ablaut/ablautlaw11.InverseAlls", spec := "inverseAlls", inPlace := ["internal/bytealg.IndexByteString", "internal/bytealg.IndexString", "internal/abi.NoEscape"], unfollowed := true, recurses := true, named := ["unicode/utf8.first", "unicode/utf8.acceptRanges", "math/bits.deBruijn64tab", "internal/bytealg.MaxLen"], loops := true, apart := false, laid := [("math/bits.deBruijn64tab", laid_math_bits_deBruijn64tab), ("unicode/utf8.acceptRanges", laid_unicode_utf8_acceptRanges), ("unicode/utf8.first", laid_unicode_utf8_first)], narrowed := true }
def InverseAllsUptoSaid : Prop := inverseAllsUptoRow.holds Tryz.pinned (OpenSpec.upto inverseAllsSpec)

/-- 'ablautlaw11.InverseThere', WHERE WHAT IT READS IS OF BULK AT MOST 1048576: true; the input reads as it did. -/
def inverseThereUptoRow : OpenClaim := { program := "ytlgliddhideflaagreatdoor", sum := "dd085c944009d7ff89b45c112ad20a94edfb50f5783c43d50a8f4a9c0d0eaaec", func := "ablaut/ablautlaw11.InverseThere", spec := "inverseThere", inPlace := ["internal/bytealg.IndexByteString", "internal/bytealg.IndexString", "internal/abi.NoEscape"], unfollowed := true, recurses := true, named := ["unicode/utf8.first", "unicode/utf8.acceptRanges", "math/bits.deBruijn64tab", "internal/bytealg.MaxLen"], loops := true, apart := false, laid := [("math/bits.deBruijn64tab", laid_math_bits_deBruijn64tab), ("unicode/utf8.acceptRanges", laid_unicode_utf8_acceptRanges), ("unicode/utf8.first", laid_unicode_utf8_first)], narrowed := true }
def InverseThereUptoSaid : Prop := inverseThereUptoRow.holds Tryz.pinned (OpenSpec.upto inverseThereSpec)

/-- 'ablautlaw11.InverseNothing', WHERE WHAT IT READS IS OF BULK AT MOST 1048576: true; the input reads as it did. -/
def inverseNothingUptoRow : OpenClaim := { program := "ytlgliddhideflaagreatdoor", sum := "dd085c944009d7ff89b45c112ad20a94edfb50f5783c43d50a8f4a9c0d0eaaec", func := "ablaut/ablautlaw11.InverseNothing", spec := "inverseNothing", inPlace := ["internal/bytealg.IndexByteString", "internal/bytealg.IndexString", "internal/abi.NoEscape"], unfollowed := true, recurses := true, named := ["unicode/utf8.first", "unicode/utf8.acceptRanges", "math/bits.deBruijn64tab", "internal/bytealg.MaxLen"], apart := false, laid := [("math/bits.deBruijn64tab", laid_math_bits_deBruijn64tab), ("unicode/utf8.acceptRanges", laid_unicode_utf8_acceptRanges), ("unicode/utf8.first", laid_unicode_utf8_first)], narrowed := true }
def InverseNothingUptoSaid : Prop := inverseNothingUptoRow.holds Tryz.pinned (OpenSpec.upto inverseNothingSpec)

/-- 'ablautlaw11.InverseBackAgain', WHERE WHAT IT READS IS OF BULK AT MOST 1048576: true; the input reads as it did. -/
def inverseBackAgainUptoRow : OpenClaim := { program := "ytlgliddhideflaagreatdoor", sum := "dd085c944009d7ff89b45c112ad20a94edfb50f5783c43d50a8f4a9c0d0eaaec", func := "ablaut/ablautlaw11.InverseBackAgain", spec := "inverseBackAgain", inPlace := ["internal/bytealg.IndexByteString", "internal/bytealg.IndexString", "internal/abi.NoEscape"], unfollowed := true, recurses := true, named := ["unicode/utf8.first", "unicode/utf8.acceptRanges", "math/bits.deBruijn64tab", "internal/bytealg.MaxLen"], loops := true, apart := false, laid := [("math/bits.deBruijn64tab", laid_math_bits_deBruijn64tab), ("unicode/utf8.acceptRanges", laid_unicode_utf8_acceptRanges), ("unicode/utf8.first", laid_unicode_utf8_first)], narrowed := true }
def InverseBackAgainUptoSaid : Prop := inverseBackAgainUptoRow.holds Tryz.pinned (OpenSpec.upto inverseBackAgainSpec)

/-- 'ablautlaw11.InverseRefuses', WHERE WHAT IT READS IS OF BULK AT MOST 1048576: true; the input reads as it did. -/
def inverseRefusesUptoRow : OpenClaim := { program := "ytlgliddhideflaagreatdoor", sum := "dd085c944009d7ff89b45c112ad20a94edfb50f5783c43d50a8f4a9c0d0eaaec", func := "ablaut/ablautlaw11.InverseRefuses", spec := "inverseRefuses", inPlace := ["internal/bytealg.IndexByteString", "internal/bytealg.IndexString", "internal/abi.NoEscape"], unfollowed := true, recurses := true, named := ["unicode/utf8.first", "unicode/utf8.acceptRanges", "math/bits.deBruijn64tab", "internal/bytealg.MaxLen"], apart := false, laid := [("math/bits.deBruijn64tab", laid_math_bits_deBruijn64tab), ("unicode/utf8.acceptRanges", laid_unicode_utf8_acceptRanges), ("unicode/utf8.first", laid_unicode_utf8_first)], narrowed := true }
def InverseRefusesUptoSaid : Prop := inverseRefusesUptoRow.holds Tryz.pinned (OpenSpec.upto inverseRefusesSpec)

end Rows
end Go.Proofs.YtlgliddhideflaaGreatDoor

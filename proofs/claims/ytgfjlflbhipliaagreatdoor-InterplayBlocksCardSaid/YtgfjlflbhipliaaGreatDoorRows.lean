/-
  NARROWER THAN 'FOR EVERY INPUT', by the rows' own cells (each row's printed sentence says how): InterplayMatters: loops, laid · InterplayBlocks: loops, laid · InterplaySides: loops, laid · InterplayFirst: loops, laid · InterplayMoves: loops, laid · InterplaySelf: loops, laid · InterplayFree: loops, laid · InterplayRelations: loops, laid · InterplayNear: loops, laid · InterplaySwaps: loops, laid · InterplayTwo: loops, laid · InterplayTables: loops, laid.
  DERIVED. THE GIVEN ROWS OF THIS SEAT. 12 by the template 'for every input the law returns true; each argument reads behind the call as it read before'; 0 by the template 'total and deterministic' (their statements: YtgfjlflbhipliaaGreatDoorTotals.lean).
  GIVEN WITH THE SEED: the statements are not yours to turn. If you find one false, say at which input.
  Laid BY PROGRAM, IN A SANDBOX (cutbox-rows.mjs): the forced cells as the released guide's own fill.sh prints them over the translation 3fb5bc683a55d44c… (all of the seat's roots in one cut). By AI agents, Wed Nov 11 2026. No macro, syntax, notation, axiom, sorry.
-/
import Derived.Test.YtgfjlflbhipliaaGreatDoorChecked
import GoSem.PinnedTables
import GoSem.Claim
import GoSem.ClaimJoined
import GoSem.ClaimMapViews
import Derived.JoinedTies
import Derived.KernelRfl
namespace Go.Proofs.YtgfjlflbhipliaaGreatDoor
/- THE CELL 'sum', in the pinned program and in every row, IS THE sha256 OF THE DUMP (.gsa) THAT YtgfjlflbhipliaaGreatDoorProg.lean LOADS. Nothing in Lean hashes anything: it is a label: what it is worth is what the hold of that sum in a sandbox is worth. -/
noncomputable def Tryz.pinned : Pinned := { name := "ytgfjlflbhipliaagreatdoor", sum := "3fb5bc683a55d44caa8e24164279ad19dab8dc285f331ee52df4e881a33cda7c", checked := Tryz.checked }
namespace Rows
def none {H : Type} : Left H := { results := [], args := [] }

/- WHAT THE LISTED PACKAGE-LEVEL VARIABLES READ AS WHEN THE CALL BEGINS. Each datum BY PROGRAM (the guide's laid-datum.mjs) off the statement by which the dump's own 'gosem.cut.vars' lays the variable. In a bare row this is a premise. The card (YtgfjlflbhipliaaGreatDoorCards.lean) ties it to the program's text. -/
def laid_math_bits_deBruijn64tab {H : Type} : DataW H := .agg [.lit (.int .u8 0), .lit (.int .u8 1), .lit (.int .u8 56), .lit (.int .u8 2), .lit (.int .u8 57), .lit (.int .u8 49), .lit (.int .u8 28), .lit (.int .u8 3), .lit (.int .u8 61), .lit (.int .u8 58), .lit (.int .u8 42), .lit (.int .u8 50), .lit (.int .u8 38), .lit (.int .u8 29), .lit (.int .u8 17), .lit (.int .u8 4), .lit (.int .u8 62), .lit (.int .u8 47), .lit (.int .u8 59), .lit (.int .u8 36), .lit (.int .u8 45), .lit (.int .u8 43), .lit (.int .u8 51), .lit (.int .u8 22), .lit (.int .u8 53), .lit (.int .u8 39), .lit (.int .u8 33), .lit (.int .u8 30), .lit (.int .u8 24), .lit (.int .u8 18), .lit (.int .u8 12), .lit (.int .u8 5), .lit (.int .u8 63), .lit (.int .u8 55), .lit (.int .u8 48), .lit (.int .u8 27), .lit (.int .u8 60), .lit (.int .u8 41), .lit (.int .u8 37), .lit (.int .u8 16), .lit (.int .u8 46), .lit (.int .u8 35), .lit (.int .u8 44), .lit (.int .u8 21), .lit (.int .u8 52), .lit (.int .u8 32), .lit (.int .u8 23), .lit (.int .u8 11), .lit (.int .u8 54), .lit (.int .u8 26), .lit (.int .u8 40), .lit (.int .u8 15), .lit (.int .u8 34), .lit (.int .u8 20), .lit (.int .u8 31), .lit (.int .u8 10), .lit (.int .u8 25), .lit (.int .u8 14), .lit (.int .u8 19), .lit (.int .u8 9), .lit (.int .u8 13), .lit (.int .u8 8), .lit (.int .u8 7), .lit (.int .u8 6)]
def laid_unicode_utf8_acceptRanges {H : Type} : DataW H := .agg [.agg [.lit (.int .u8 128), .lit (.int .u8 191)], .agg [.lit (.int .u8 160), .lit (.int .u8 191)], .agg [.lit (.int .u8 128), .lit (.int .u8 159)], .agg [.lit (.int .u8 144), .lit (.int .u8 191)], .agg [.lit (.int .u8 128), .lit (.int .u8 143)], .agg [.lit (.int .u8 0), .lit (.int .u8 0)], .agg [.lit (.int .u8 0), .lit (.int .u8 0)], .agg [.lit (.int .u8 0), .lit (.int .u8 0)], .agg [.lit (.int .u8 0), .lit (.int .u8 0)], .agg [.lit (.int .u8 0), .lit (.int .u8 0)], .agg [.lit (.int .u8 0), .lit (.int .u8 0)], .agg [.lit (.int .u8 0), .lit (.int .u8 0)], .agg [.lit (.int .u8 0), .lit (.int .u8 0)], .agg [.lit (.int .u8 0), .lit (.int .u8 0)], .agg [.lit (.int .u8 0), .lit (.int .u8 0)], .agg [.lit (.int .u8 0), .lit (.int .u8 0)]]
/-- One of Go's own tables, pinned by name: the form's constant. -/
def laid_unicode_utf8_first : DataW Unit := Go.Pinned.utf8First

/-- 'ablautlaw12.InterplayMatters': WHATEVER THE INPUT: true; the input reads as it did. -/
def interplayMattersSpec : ChangeSpec := { name := "interplayMatters", fn := fun _ => fun
  | [d1, d2, d3] => { results := [.lit (.bool true)], args := [d1, d2, d3] }
  | _ => none }
def interplayMattersRow : OpenClaim := { program := "ytgfjlflbhipliaagreatdoor", sum := "3fb5bc683a55d44caa8e24164279ad19dab8dc285f331ee52df4e881a33cda7c", func := "ablaut/ablautlaw12.InterplayMatters", spec := "interplayMatters", inPlace := ["internal/bytealg.IndexByteString", "internal/bytealg.IndexString"], unfollowed := true, recurses := true, named := ["unicode/utf8.first", "unicode/utf8.acceptRanges", "math/bits.deBruijn64tab", "internal/bytealg.MaxLen"], loops := true, apart := false, laid := [("math/bits.deBruijn64tab", laid_math_bits_deBruijn64tab), ("unicode/utf8.acceptRanges", laid_unicode_utf8_acceptRanges), ("unicode/utf8.first", laid_unicode_utf8_first)] }
def InterplayMattersSaid : Prop := interplayMattersRow.holds Tryz.pinned (OpenSpec.ofChange interplayMattersSpec)

/-- ITS FALSE NEIGHBOUR: 'it returns false'. Refute it at one input. -/
def interplayMattersWrong : ChangeSpec := { name := "interplayMatters", fn := fun _ => fun
  | [d1, d2, d3] => { results := [.lit (.bool false)], args := [d1, d2, d3] }
  | _ => none }
def InterplayMattersWrongFalsely : Prop := interplayMattersRow.holds Tryz.pinned (OpenSpec.ofChange interplayMattersWrong)

/-- 'ablautlaw12.InterplayBlocks': WHATEVER THE INPUT: true; the input reads as it did. -/
def interplayBlocksSpec : ChangeSpec := { name := "interplayBlocks", fn := fun _ => fun
  | [d1, d2] => { results := [.lit (.bool true)], args := [d1, d2] }
  | _ => none }
def interplayBlocksRow : OpenClaim := { program := "ytgfjlflbhipliaagreatdoor", sum := "3fb5bc683a55d44caa8e24164279ad19dab8dc285f331ee52df4e881a33cda7c", func := "ablaut/ablautlaw12.InterplayBlocks", spec := "interplayBlocks", inPlace := ["internal/bytealg.IndexByteString", "internal/bytealg.IndexString"], unfollowed := true, recurses := true, named := ["unicode/utf8.first", "unicode/utf8.acceptRanges", "math/bits.deBruijn64tab", "internal/bytealg.MaxLen"], loops := true, apart := false, laid := [("math/bits.deBruijn64tab", laid_math_bits_deBruijn64tab), ("unicode/utf8.acceptRanges", laid_unicode_utf8_acceptRanges), ("unicode/utf8.first", laid_unicode_utf8_first)] }
def InterplayBlocksSaid : Prop := interplayBlocksRow.holds Tryz.pinned (OpenSpec.ofChange interplayBlocksSpec)

/-- ITS FALSE NEIGHBOUR: 'it returns false'. Refute it at one input. -/
def interplayBlocksWrong : ChangeSpec := { name := "interplayBlocks", fn := fun _ => fun
  | [d1, d2] => { results := [.lit (.bool false)], args := [d1, d2] }
  | _ => none }
def InterplayBlocksWrongFalsely : Prop := interplayBlocksRow.holds Tryz.pinned (OpenSpec.ofChange interplayBlocksWrong)

/-- 'ablautlaw12.InterplaySides': WHATEVER THE INPUT: true; the input reads as it did. -/
def interplaySidesSpec : ChangeSpec := { name := "interplaySides", fn := fun _ => fun
  | [d1, d2, d3] => { results := [.lit (.bool true)], args := [d1, d2, d3] }
  | _ => none }
def interplaySidesRow : OpenClaim := { program := "ytgfjlflbhipliaagreatdoor", sum := "3fb5bc683a55d44caa8e24164279ad19dab8dc285f331ee52df4e881a33cda7c", func := "ablaut/ablautlaw12.InterplaySides", spec := "interplaySides", inPlace := ["internal/bytealg.IndexByteString", "internal/bytealg.IndexString"], unfollowed := true, recurses := true, named := ["unicode/utf8.first", "unicode/utf8.acceptRanges", "math/bits.deBruijn64tab", "internal/bytealg.MaxLen"], loops := true, apart := false, laid := [("math/bits.deBruijn64tab", laid_math_bits_deBruijn64tab), ("unicode/utf8.acceptRanges", laid_unicode_utf8_acceptRanges), ("unicode/utf8.first", laid_unicode_utf8_first)] }
def InterplaySidesSaid : Prop := interplaySidesRow.holds Tryz.pinned (OpenSpec.ofChange interplaySidesSpec)

/-- ITS FALSE NEIGHBOUR: 'it returns false'. Refute it at one input. -/
def interplaySidesWrong : ChangeSpec := { name := "interplaySides", fn := fun _ => fun
  | [d1, d2, d3] => { results := [.lit (.bool false)], args := [d1, d2, d3] }
  | _ => none }
def InterplaySidesWrongFalsely : Prop := interplaySidesRow.holds Tryz.pinned (OpenSpec.ofChange interplaySidesWrong)

/-- 'ablautlaw12.InterplayFirst': WHATEVER THE INPUT: true; the input reads as it did. -/
def interplayFirstSpec : ChangeSpec := { name := "interplayFirst", fn := fun _ => fun
  | [d1, d2, d3] => { results := [.lit (.bool true)], args := [d1, d2, d3] }
  | _ => none }
def interplayFirstRow : OpenClaim := { program := "ytgfjlflbhipliaagreatdoor", sum := "3fb5bc683a55d44caa8e24164279ad19dab8dc285f331ee52df4e881a33cda7c", func := "ablaut/ablautlaw12.InterplayFirst", spec := "interplayFirst", inPlace := ["internal/bytealg.IndexByteString", "internal/bytealg.IndexString"], unfollowed := true, recurses := true, named := ["unicode/utf8.first", "unicode/utf8.acceptRanges", "math/bits.deBruijn64tab", "internal/bytealg.MaxLen"], loops := true, apart := false, laid := [("math/bits.deBruijn64tab", laid_math_bits_deBruijn64tab), ("unicode/utf8.acceptRanges", laid_unicode_utf8_acceptRanges), ("unicode/utf8.first", laid_unicode_utf8_first)] }
def InterplayFirstSaid : Prop := interplayFirstRow.holds Tryz.pinned (OpenSpec.ofChange interplayFirstSpec)

/-- ITS FALSE NEIGHBOUR: 'it returns false'. Refute it at one input. -/
def interplayFirstWrong : ChangeSpec := { name := "interplayFirst", fn := fun _ => fun
  | [d1, d2, d3] => { results := [.lit (.bool false)], args := [d1, d2, d3] }
  | _ => none }
def InterplayFirstWrongFalsely : Prop := interplayFirstRow.holds Tryz.pinned (OpenSpec.ofChange interplayFirstWrong)

/-- 'ablautlaw12.InterplayMoves': WHATEVER THE INPUT: true; the input reads as it did. -/
def interplayMovesSpec : ChangeSpec := { name := "interplayMoves", fn := fun _ => fun
  | [d1, d2] => { results := [.lit (.bool true)], args := [d1, d2] }
  | _ => none }
def interplayMovesRow : OpenClaim := { program := "ytgfjlflbhipliaagreatdoor", sum := "3fb5bc683a55d44caa8e24164279ad19dab8dc285f331ee52df4e881a33cda7c", func := "ablaut/ablautlaw12.InterplayMoves", spec := "interplayMoves", inPlace := ["internal/bytealg.IndexByteString", "internal/bytealg.IndexString"], unfollowed := true, recurses := true, named := ["unicode/utf8.first", "unicode/utf8.acceptRanges", "math/bits.deBruijn64tab", "internal/bytealg.MaxLen"], loops := true, apart := false, laid := [("math/bits.deBruijn64tab", laid_math_bits_deBruijn64tab), ("unicode/utf8.acceptRanges", laid_unicode_utf8_acceptRanges), ("unicode/utf8.first", laid_unicode_utf8_first)] }
def InterplayMovesSaid : Prop := interplayMovesRow.holds Tryz.pinned (OpenSpec.ofChange interplayMovesSpec)

/-- ITS FALSE NEIGHBOUR: 'it returns false'. Refute it at one input. -/
def interplayMovesWrong : ChangeSpec := { name := "interplayMoves", fn := fun _ => fun
  | [d1, d2] => { results := [.lit (.bool false)], args := [d1, d2] }
  | _ => none }
def InterplayMovesWrongFalsely : Prop := interplayMovesRow.holds Tryz.pinned (OpenSpec.ofChange interplayMovesWrong)

/-- 'ablautlaw12.InterplaySelf': WHATEVER THE INPUT: true; the input reads as it did. -/
def interplaySelfSpec : ChangeSpec := { name := "interplaySelf", fn := fun _ => fun
  | [d1, d2] => { results := [.lit (.bool true)], args := [d1, d2] }
  | _ => none }
def interplaySelfRow : OpenClaim := { program := "ytgfjlflbhipliaagreatdoor", sum := "3fb5bc683a55d44caa8e24164279ad19dab8dc285f331ee52df4e881a33cda7c", func := "ablaut/ablautlaw12.InterplaySelf", spec := "interplaySelf", inPlace := ["internal/bytealg.IndexByteString", "internal/bytealg.IndexString"], unfollowed := true, recurses := true, named := ["unicode/utf8.first", "unicode/utf8.acceptRanges", "math/bits.deBruijn64tab", "internal/bytealg.MaxLen"], loops := true, apart := false, laid := [("math/bits.deBruijn64tab", laid_math_bits_deBruijn64tab), ("unicode/utf8.acceptRanges", laid_unicode_utf8_acceptRanges), ("unicode/utf8.first", laid_unicode_utf8_first)] }
def InterplaySelfSaid : Prop := interplaySelfRow.holds Tryz.pinned (OpenSpec.ofChange interplaySelfSpec)

/-- ITS FALSE NEIGHBOUR: 'it returns false'. Refute it at one input. -/
def interplaySelfWrong : ChangeSpec := { name := "interplaySelf", fn := fun _ => fun
  | [d1, d2] => { results := [.lit (.bool false)], args := [d1, d2] }
  | _ => none }
def InterplaySelfWrongFalsely : Prop := interplaySelfRow.holds Tryz.pinned (OpenSpec.ofChange interplaySelfWrong)

/-- 'ablautlaw12.InterplayFree': WHATEVER THE INPUT: true; the input reads as it did. -/
def interplayFreeSpec : ChangeSpec := { name := "interplayFree", fn := fun _ => fun
  | [d1, d2, d3] => { results := [.lit (.bool true)], args := [d1, d2, d3] }
  | _ => none }
def interplayFreeRow : OpenClaim := { program := "ytgfjlflbhipliaagreatdoor", sum := "3fb5bc683a55d44caa8e24164279ad19dab8dc285f331ee52df4e881a33cda7c", func := "ablaut/ablautlaw12.InterplayFree", spec := "interplayFree", inPlace := ["internal/bytealg.IndexByteString", "internal/bytealg.IndexString"], unfollowed := true, recurses := true, named := ["unicode/utf8.first", "unicode/utf8.acceptRanges", "math/bits.deBruijn64tab", "internal/bytealg.MaxLen"], loops := true, apart := false, laid := [("math/bits.deBruijn64tab", laid_math_bits_deBruijn64tab), ("unicode/utf8.acceptRanges", laid_unicode_utf8_acceptRanges), ("unicode/utf8.first", laid_unicode_utf8_first)] }
def InterplayFreeSaid : Prop := interplayFreeRow.holds Tryz.pinned (OpenSpec.ofChange interplayFreeSpec)

/-- ITS FALSE NEIGHBOUR: 'it returns false'. Refute it at one input. -/
def interplayFreeWrong : ChangeSpec := { name := "interplayFree", fn := fun _ => fun
  | [d1, d2, d3] => { results := [.lit (.bool false)], args := [d1, d2, d3] }
  | _ => none }
def InterplayFreeWrongFalsely : Prop := interplayFreeRow.holds Tryz.pinned (OpenSpec.ofChange interplayFreeWrong)

/-- 'ablautlaw12.InterplayRelations': WHATEVER THE INPUT: true; the input reads as it did. -/
def interplayRelationsSpec : ChangeSpec := { name := "interplayRelations", fn := fun _ => fun
  | [d1, d2, d3] => { results := [.lit (.bool true)], args := [d1, d2, d3] }
  | _ => none }
def interplayRelationsRow : OpenClaim := { program := "ytgfjlflbhipliaagreatdoor", sum := "3fb5bc683a55d44caa8e24164279ad19dab8dc285f331ee52df4e881a33cda7c", func := "ablaut/ablautlaw12.InterplayRelations", spec := "interplayRelations", inPlace := ["internal/bytealg.IndexByteString", "internal/bytealg.IndexString"], unfollowed := true, recurses := true, named := ["unicode/utf8.first", "unicode/utf8.acceptRanges", "math/bits.deBruijn64tab", "internal/bytealg.MaxLen"], loops := true, apart := false, laid := [("math/bits.deBruijn64tab", laid_math_bits_deBruijn64tab), ("unicode/utf8.acceptRanges", laid_unicode_utf8_acceptRanges), ("unicode/utf8.first", laid_unicode_utf8_first)] }
def InterplayRelationsSaid : Prop := interplayRelationsRow.holds Tryz.pinned (OpenSpec.ofChange interplayRelationsSpec)

/-- ITS FALSE NEIGHBOUR: 'it returns false'. Refute it at one input. -/
def interplayRelationsWrong : ChangeSpec := { name := "interplayRelations", fn := fun _ => fun
  | [d1, d2, d3] => { results := [.lit (.bool false)], args := [d1, d2, d3] }
  | _ => none }
def InterplayRelationsWrongFalsely : Prop := interplayRelationsRow.holds Tryz.pinned (OpenSpec.ofChange interplayRelationsWrong)

/-- 'ablautlaw12.InterplayNear': WHATEVER THE INPUT: true; the input reads as it did. -/
def interplayNearSpec : ChangeSpec := { name := "interplayNear", fn := fun _ => fun
  | [d1, d2, d3] => { results := [.lit (.bool true)], args := [d1, d2, d3] }
  | _ => none }
def interplayNearRow : OpenClaim := { program := "ytgfjlflbhipliaagreatdoor", sum := "3fb5bc683a55d44caa8e24164279ad19dab8dc285f331ee52df4e881a33cda7c", func := "ablaut/ablautlaw12.InterplayNear", spec := "interplayNear", inPlace := ["internal/bytealg.IndexByteString", "internal/bytealg.IndexString"], unfollowed := true, recurses := true, named := ["unicode/utf8.first", "unicode/utf8.acceptRanges", "math/bits.deBruijn64tab", "internal/bytealg.MaxLen"], loops := true, apart := false, laid := [("math/bits.deBruijn64tab", laid_math_bits_deBruijn64tab), ("unicode/utf8.acceptRanges", laid_unicode_utf8_acceptRanges), ("unicode/utf8.first", laid_unicode_utf8_first)] }
def InterplayNearSaid : Prop := interplayNearRow.holds Tryz.pinned (OpenSpec.ofChange interplayNearSpec)

/-- ITS FALSE NEIGHBOUR: 'it returns false'. Refute it at one input. -/
def interplayNearWrong : ChangeSpec := { name := "interplayNear", fn := fun _ => fun
  | [d1, d2, d3] => { results := [.lit (.bool false)], args := [d1, d2, d3] }
  | _ => none }
def InterplayNearWrongFalsely : Prop := interplayNearRow.holds Tryz.pinned (OpenSpec.ofChange interplayNearWrong)

/-- 'ablautlaw12.InterplaySwaps': WHATEVER THE INPUT: true; the input reads as it did. -/
def interplaySwapsSpec : ChangeSpec := { name := "interplaySwaps", fn := fun _ => fun
  | [d1, d2] => { results := [.lit (.bool true)], args := [d1, d2] }
  | _ => none }
def interplaySwapsRow : OpenClaim := { program := "ytgfjlflbhipliaagreatdoor", sum := "3fb5bc683a55d44caa8e24164279ad19dab8dc285f331ee52df4e881a33cda7c", func := "ablaut/ablautlaw12.InterplaySwaps", spec := "interplaySwaps", inPlace := ["internal/bytealg.IndexByteString", "internal/bytealg.IndexString"], unfollowed := true, recurses := true, named := ["unicode/utf8.first", "unicode/utf8.acceptRanges", "math/bits.deBruijn64tab", "internal/bytealg.MaxLen"], loops := true, apart := false, laid := [("math/bits.deBruijn64tab", laid_math_bits_deBruijn64tab), ("unicode/utf8.acceptRanges", laid_unicode_utf8_acceptRanges), ("unicode/utf8.first", laid_unicode_utf8_first)] }
def InterplaySwapsSaid : Prop := interplaySwapsRow.holds Tryz.pinned (OpenSpec.ofChange interplaySwapsSpec)

/-- ITS FALSE NEIGHBOUR: 'it returns false'. Refute it at one input. -/
def interplaySwapsWrong : ChangeSpec := { name := "interplaySwaps", fn := fun _ => fun
  | [d1, d2] => { results := [.lit (.bool false)], args := [d1, d2] }
  | _ => none }
def InterplaySwapsWrongFalsely : Prop := interplaySwapsRow.holds Tryz.pinned (OpenSpec.ofChange interplaySwapsWrong)

/-- 'ablautlaw12.InterplayTwo': WHATEVER THE INPUT: true; the input reads as it did. -/
def interplayTwoSpec : ChangeSpec := { name := "interplayTwo", fn := fun _ => fun
  | [d1, d2, d3] => { results := [.lit (.bool true)], args := [d1, d2, d3] }
  | _ => none }
def interplayTwoRow : OpenClaim := { program := "ytgfjlflbhipliaagreatdoor", sum := "3fb5bc683a55d44caa8e24164279ad19dab8dc285f331ee52df4e881a33cda7c", func := "ablaut/ablautlaw12.InterplayTwo", spec := "interplayTwo", inPlace := ["internal/bytealg.IndexByteString", "internal/bytealg.IndexString"], unfollowed := true, recurses := true, named := ["unicode/utf8.first", "unicode/utf8.acceptRanges", "math/bits.deBruijn64tab", "internal/bytealg.MaxLen"], loops := true, apart := false, laid := [("math/bits.deBruijn64tab", laid_math_bits_deBruijn64tab), ("unicode/utf8.acceptRanges", laid_unicode_utf8_acceptRanges), ("unicode/utf8.first", laid_unicode_utf8_first)] }
def InterplayTwoSaid : Prop := interplayTwoRow.holds Tryz.pinned (OpenSpec.ofChange interplayTwoSpec)

/-- ITS FALSE NEIGHBOUR: 'it returns false'. Refute it at one input. -/
def interplayTwoWrong : ChangeSpec := { name := "interplayTwo", fn := fun _ => fun
  | [d1, d2, d3] => { results := [.lit (.bool false)], args := [d1, d2, d3] }
  | _ => none }
def InterplayTwoWrongFalsely : Prop := interplayTwoRow.holds Tryz.pinned (OpenSpec.ofChange interplayTwoWrong)

/-- 'ablautlaw12.InterplayTables': WHATEVER THE INPUT: true; the input reads as it did. -/
def interplayTablesSpec : ChangeSpec := { name := "interplayTables", fn := fun _ => fun
  | [d1, d2] => { results := [.lit (.bool true)], args := [d1, d2] }
  | _ => none }
def interplayTablesRow : OpenClaim := { program := "ytgfjlflbhipliaagreatdoor", sum := "3fb5bc683a55d44caa8e24164279ad19dab8dc285f331ee52df4e881a33cda7c", func := "ablaut/ablautlaw12.InterplayTables", spec := "interplayTables", inPlace := ["internal/bytealg.IndexByteString", "internal/bytealg.IndexString"], unfollowed := true, recurses := true, named := ["unicode/utf8.first", "unicode/utf8.acceptRanges", "math/bits.deBruijn64tab", "internal/bytealg.MaxLen"], loops := true, apart := false, laid := [("math/bits.deBruijn64tab", laid_math_bits_deBruijn64tab), ("unicode/utf8.acceptRanges", laid_unicode_utf8_acceptRanges), ("unicode/utf8.first", laid_unicode_utf8_first)] }
def InterplayTablesSaid : Prop := interplayTablesRow.holds Tryz.pinned (OpenSpec.ofChange interplayTablesSpec)

/-- ITS FALSE NEIGHBOUR: 'it returns false'. Refute it at one input. -/
def interplayTablesWrong : ChangeSpec := { name := "interplayTables", fn := fun _ => fun
  | [d1, d2] => { results := [.lit (.bool false)], args := [d1, d2] }
  | _ => none }
def InterplayTablesWrongFalsely : Prop := interplayTablesRow.holds Tryz.pinned (OpenSpec.ofChange interplayTablesWrong)

/- THE SECOND FORM. 'bulk': how many values and letters a reading holds, each counted each time it is reached (what is shared counts as often as it is met; a slice's spare places count too). A statement '..UptoSaid' is the law's where the arguments, and the package variables that the reading takes, are together of bulk at most 1048576: NARROWER than '..Said'. Prove '..Said' where nothing that the law and all that it calls make is longer than what came in: it says more and counts as full. Else prove '..UptoSaid'. A law counts once. -/
mutual
def uptoBulk {H : Type} : DataW H → Nat
  | .lit (.string bytes) => bytes.length + 1
  | .lit _ => 1
  | .nil => 1
  | .ptr d => uptoBulk d + 1
  | .slice elems spare => uptoBulkAll elems + uptoBulkAll spare + 1
  | .agg parts => uptoBulkAll parts + 1
  | .iface _ d => uptoBulk d + 1
  | .map entries => uptoBulkEntries entries + 1
  | .held _ => 1
def uptoBulkAll {H : Type} : List (DataW H) → Nat
  | [] => 0
  | d :: r => uptoBulk d + uptoBulkAll r
def uptoBulkEntries {H : Type} : List (Lit × DataW H) → Nat
  | [] => 0
  | x :: r => uptoBulkEntry x + uptoBulkEntries r
def uptoBulkEntry {H : Type} : Lit × DataW H → Nat
  | (.string bytes, d) => bytes.length + uptoBulk d + 1
  | (_, d) => uptoBulk d + 1
 end
def uptoSmall : (H : Type) → List (DataW H) → Bool := fun _ ds => decide (uptoBulkAll ds ≤ 1048576)
def OpenSpec.upto (s : _root_.Go.ChangeSpec) : _root_.Go.OpenSpec := { _root_.Go.OpenSpec.ofChange s with cond := some uptoSmall }

/-- 'ablautlaw12.InterplayMatters', WHERE WHAT IT READS IS OF BULK AT MOST 1048576: true; the input reads as it did. -/
def interplayMattersUptoRow : OpenClaim := { program := "ytgfjlflbhipliaagreatdoor", sum := "3fb5bc683a55d44caa8e24164279ad19dab8dc285f331ee52df4e881a33cda7c", func := "ablaut/ablautlaw12.InterplayMatters", spec := "interplayMatters", inPlace := ["internal/bytealg.IndexByteString", "internal/bytealg.IndexString"], unfollowed := true, recurses := true, named := ["unicode/utf8.first", "unicode/utf8.acceptRanges", "math/bits.deBruijn64tab", "internal/bytealg.MaxLen"], loops := true, apart := false, laid := [("math/bits.deBruijn64tab", laid_math_bits_deBruijn64tab), ("unicode/utf8.acceptRanges", laid_unicode_utf8_acceptRanges), ("unicode/utf8.first", laid_unicode_utf8_first)], narrowed := true }
def InterplayMattersUptoSaid : Prop := interplayMattersUptoRow.holds Tryz.pinned (OpenSpec.upto interplayMattersSpec)

/-- 'ablautlaw12.InterplayBlocks', WHERE WHAT IT READS IS OF BULK AT MOST 1048576: true; the input reads as it did. -/
def interplayBlocksUptoRow : OpenClaim := { program := "ytgfjlflbhipliaagreatdoor", sum := "3fb5bc683a55d44caa8e24164279ad19dab8dc285f331ee52df4e881a33cda7c", func := "ablaut/ablautlaw12.InterplayBlocks", spec := "interplayBlocks", inPlace := ["internal/bytealg.IndexByteString", "internal/bytealg.IndexString"], unfollowed := true, recurses := true, named := ["unicode/utf8.first", "unicode/utf8.acceptRanges", "math/bits.deBruijn64tab", "internal/bytealg.MaxLen"], loops := true, apart := false, laid := [("math/bits.deBruijn64tab", laid_math_bits_deBruijn64tab), ("unicode/utf8.acceptRanges", laid_unicode_utf8_acceptRanges), ("unicode/utf8.first", laid_unicode_utf8_first)], narrowed := true }
def InterplayBlocksUptoSaid : Prop := interplayBlocksUptoRow.holds Tryz.pinned (OpenSpec.upto interplayBlocksSpec)

/-- 'ablautlaw12.InterplaySides', WHERE WHAT IT READS IS OF BULK AT MOST 1048576: true; the input reads as it did. -/
def interplaySidesUptoRow : OpenClaim := { program := "ytgfjlflbhipliaagreatdoor", sum := "3fb5bc683a55d44caa8e24164279ad19dab8dc285f331ee52df4e881a33cda7c", func := "ablaut/ablautlaw12.InterplaySides", spec := "interplaySides", inPlace := ["internal/bytealg.IndexByteString", "internal/bytealg.IndexString"], unfollowed := true, recurses := true, named := ["unicode/utf8.first", "unicode/utf8.acceptRanges", "math/bits.deBruijn64tab", "internal/bytealg.MaxLen"], loops := true, apart := false, laid := [("math/bits.deBruijn64tab", laid_math_bits_deBruijn64tab), ("unicode/utf8.acceptRanges", laid_unicode_utf8_acceptRanges), ("unicode/utf8.first", laid_unicode_utf8_first)], narrowed := true }
def InterplaySidesUptoSaid : Prop := interplaySidesUptoRow.holds Tryz.pinned (OpenSpec.upto interplaySidesSpec)

/-- 'ablautlaw12.InterplayFirst', WHERE WHAT IT READS IS OF BULK AT MOST 1048576: true; the input reads as it did. -/
def interplayFirstUptoRow : OpenClaim := { program := "ytgfjlflbhipliaagreatdoor", sum := "3fb5bc683a55d44caa8e24164279ad19dab8dc285f331ee52df4e881a33cda7c", func := "ablaut/ablautlaw12.InterplayFirst", spec := "interplayFirst", inPlace := ["internal/bytealg.IndexByteString", "internal/bytealg.IndexString"], unfollowed := true, recurses := true, named := ["unicode/utf8.first", "unicode/utf8.acceptRanges", "math/bits.deBruijn64tab", "internal/bytealg.MaxLen"], loops := true, apart := false, laid := [("math/bits.deBruijn64tab", laid_math_bits_deBruijn64tab), ("unicode/utf8.acceptRanges", laid_unicode_utf8_acceptRanges), ("unicode/utf8.first", laid_unicode_utf8_first)], narrowed := true }
def InterplayFirstUptoSaid : Prop := interplayFirstUptoRow.holds Tryz.pinned (OpenSpec.upto interplayFirstSpec)

/-- 'ablautlaw12.InterplayMoves', WHERE WHAT IT READS IS OF BULK AT MOST 1048576: true; the input reads as it did. -/
def interplayMovesUptoRow : OpenClaim := { program := "ytgfjlflbhipliaagreatdoor", sum := "3fb5bc683a55d44caa8e24164279ad19dab8dc285f331ee52df4e881a33cda7c", func := "ablaut/ablautlaw12.InterplayMoves", spec := "interplayMoves", inPlace := ["internal/bytealg.IndexByteString", "internal/bytealg.IndexString"], unfollowed := true, recurses := true, named := ["unicode/utf8.first", "unicode/utf8.acceptRanges", "math/bits.deBruijn64tab", "internal/bytealg.MaxLen"], loops := true, apart := false, laid := [("math/bits.deBruijn64tab", laid_math_bits_deBruijn64tab), ("unicode/utf8.acceptRanges", laid_unicode_utf8_acceptRanges), ("unicode/utf8.first", laid_unicode_utf8_first)], narrowed := true }
def InterplayMovesUptoSaid : Prop := interplayMovesUptoRow.holds Tryz.pinned (OpenSpec.upto interplayMovesSpec)

/-- 'ablautlaw12.InterplaySelf', WHERE WHAT IT READS IS OF BULK AT MOST 1048576: true; the input reads as it did. -/
def interplaySelfUptoRow : OpenClaim := { program := "ytgfjlflbhipliaagreatdoor", sum := "3fb5bc683a55d44caa8e24164279ad19dab8dc285f331ee52df4e881a33cda7c", func := "ablaut/ablautlaw12.InterplaySelf", spec := "interplaySelf", inPlace := ["internal/bytealg.IndexByteString", "internal/bytealg.IndexString"], unfollowed := true, recurses := true, named := ["unicode/utf8.first", "unicode/utf8.acceptRanges", "math/bits.deBruijn64tab", "internal/bytealg.MaxLen"], loops := true, apart := false, laid := [("math/bits.deBruijn64tab", laid_math_bits_deBruijn64tab), ("unicode/utf8.acceptRanges", laid_unicode_utf8_acceptRanges), ("unicode/utf8.first", laid_unicode_utf8_first)], narrowed := true }
def InterplaySelfUptoSaid : Prop := interplaySelfUptoRow.holds Tryz.pinned (OpenSpec.upto interplaySelfSpec)

/-- 'ablautlaw12.InterplayFree', WHERE WHAT IT READS IS OF BULK AT MOST 1048576: true; the input reads as it did. -/
def interplayFreeUptoRow : OpenClaim := { program := "ytgfjlflbhipliaagreatdoor", sum := "3fb5bc683a55d44caa8e24164279ad19dab8dc285f331ee52df4e881a33cda7c", func := "ablaut/ablautlaw12.InterplayFree", spec := "interplayFree", inPlace := ["internal/bytealg.IndexByteString", "internal/bytealg.IndexString"], unfollowed := true, recurses := true, named := ["unicode/utf8.first", "unicode/utf8.acceptRanges", "math/bits.deBruijn64tab", "internal/bytealg.MaxLen"], loops := true, apart := false, laid := [("math/bits.deBruijn64tab", laid_math_bits_deBruijn64tab), ("unicode/utf8.acceptRanges", laid_unicode_utf8_acceptRanges), ("unicode/utf8.first", laid_unicode_utf8_first)], narrowed := true }
def InterplayFreeUptoSaid : Prop := interplayFreeUptoRow.holds Tryz.pinned (OpenSpec.upto interplayFreeSpec)

/-- 'ablautlaw12.InterplayRelations', WHERE WHAT IT READS IS OF BULK AT MOST 1048576: true; the input reads as it did. -/
def interplayRelationsUptoRow : OpenClaim := { program := "ytgfjlflbhipliaagreatdoor", sum := "3fb5bc683a55d44caa8e24164279ad19dab8dc285f331ee52df4e881a33cda7c", func := "ablaut/ablautlaw12.InterplayRelations", spec := "interplayRelations", inPlace := ["internal/bytealg.IndexByteString", "internal/bytealg.IndexString"], unfollowed := true, recurses := true, named := ["unicode/utf8.first", "unicode/utf8.acceptRanges", "math/bits.deBruijn64tab", "internal/bytealg.MaxLen"], loops := true, apart := false, laid := [("math/bits.deBruijn64tab", laid_math_bits_deBruijn64tab), ("unicode/utf8.acceptRanges", laid_unicode_utf8_acceptRanges), ("unicode/utf8.first", laid_unicode_utf8_first)], narrowed := true }
def InterplayRelationsUptoSaid : Prop := interplayRelationsUptoRow.holds Tryz.pinned (OpenSpec.upto interplayRelationsSpec)

/-- 'ablautlaw12.InterplayNear', WHERE WHAT IT READS IS OF BULK AT MOST 1048576: true; the input reads as it did. -/
def interplayNearUptoRow : OpenClaim := { program := "ytgfjlflbhipliaagreatdoor", sum := "3fb5bc683a55d44caa8e24164279ad19dab8dc285f331ee52df4e881a33cda7c", func := "ablaut/ablautlaw12.InterplayNear", spec := "interplayNear", inPlace := ["internal/bytealg.IndexByteString", "internal/bytealg.IndexString"], unfollowed := true, recurses := true, named := ["unicode/utf8.first", "unicode/utf8.acceptRanges", "math/bits.deBruijn64tab", "internal/bytealg.MaxLen"], loops := true, apart := false, laid := [("math/bits.deBruijn64tab", laid_math_bits_deBruijn64tab), ("unicode/utf8.acceptRanges", laid_unicode_utf8_acceptRanges), ("unicode/utf8.first", laid_unicode_utf8_first)], narrowed := true }
def InterplayNearUptoSaid : Prop := interplayNearUptoRow.holds Tryz.pinned (OpenSpec.upto interplayNearSpec)

/-- 'ablautlaw12.InterplaySwaps', WHERE WHAT IT READS IS OF BULK AT MOST 1048576: true; the input reads as it did. -/
def interplaySwapsUptoRow : OpenClaim := { program := "ytgfjlflbhipliaagreatdoor", sum := "3fb5bc683a55d44caa8e24164279ad19dab8dc285f331ee52df4e881a33cda7c", func := "ablaut/ablautlaw12.InterplaySwaps", spec := "interplaySwaps", inPlace := ["internal/bytealg.IndexByteString", "internal/bytealg.IndexString"], unfollowed := true, recurses := true, named := ["unicode/utf8.first", "unicode/utf8.acceptRanges", "math/bits.deBruijn64tab", "internal/bytealg.MaxLen"], loops := true, apart := false, laid := [("math/bits.deBruijn64tab", laid_math_bits_deBruijn64tab), ("unicode/utf8.acceptRanges", laid_unicode_utf8_acceptRanges), ("unicode/utf8.first", laid_unicode_utf8_first)], narrowed := true }
def InterplaySwapsUptoSaid : Prop := interplaySwapsUptoRow.holds Tryz.pinned (OpenSpec.upto interplaySwapsSpec)

/-- 'ablautlaw12.InterplayTwo', WHERE WHAT IT READS IS OF BULK AT MOST 1048576: true; the input reads as it did. -/
def interplayTwoUptoRow : OpenClaim := { program := "ytgfjlflbhipliaagreatdoor", sum := "3fb5bc683a55d44caa8e24164279ad19dab8dc285f331ee52df4e881a33cda7c", func := "ablaut/ablautlaw12.InterplayTwo", spec := "interplayTwo", inPlace := ["internal/bytealg.IndexByteString", "internal/bytealg.IndexString"], unfollowed := true, recurses := true, named := ["unicode/utf8.first", "unicode/utf8.acceptRanges", "math/bits.deBruijn64tab", "internal/bytealg.MaxLen"], loops := true, apart := false, laid := [("math/bits.deBruijn64tab", laid_math_bits_deBruijn64tab), ("unicode/utf8.acceptRanges", laid_unicode_utf8_acceptRanges), ("unicode/utf8.first", laid_unicode_utf8_first)], narrowed := true }
def InterplayTwoUptoSaid : Prop := interplayTwoUptoRow.holds Tryz.pinned (OpenSpec.upto interplayTwoSpec)

/-- 'ablautlaw12.InterplayTables', WHERE WHAT IT READS IS OF BULK AT MOST 1048576: true; the input reads as it did. -/
def interplayTablesUptoRow : OpenClaim := { program := "ytgfjlflbhipliaagreatdoor", sum := "3fb5bc683a55d44caa8e24164279ad19dab8dc285f331ee52df4e881a33cda7c", func := "ablaut/ablautlaw12.InterplayTables", spec := "interplayTables", inPlace := ["internal/bytealg.IndexByteString", "internal/bytealg.IndexString"], unfollowed := true, recurses := true, named := ["unicode/utf8.first", "unicode/utf8.acceptRanges", "math/bits.deBruijn64tab", "internal/bytealg.MaxLen"], loops := true, apart := false, laid := [("math/bits.deBruijn64tab", laid_math_bits_deBruijn64tab), ("unicode/utf8.acceptRanges", laid_unicode_utf8_acceptRanges), ("unicode/utf8.first", laid_unicode_utf8_first)], narrowed := true }
def InterplayTablesUptoSaid : Prop := interplayTablesUptoRow.holds Tryz.pinned (OpenSpec.upto interplayTablesSpec)

end Rows
end Go.Proofs.YtgfjlflbhipliaaGreatDoor

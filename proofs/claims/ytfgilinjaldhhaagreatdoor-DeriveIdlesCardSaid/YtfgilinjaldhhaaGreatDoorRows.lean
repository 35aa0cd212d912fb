/-
  NARROWER THAN 'FOR EVERY INPUT', by the rows' own cells (each row's printed sentence says how): DeriveSplits: loops, laid · DeriveSplit: loops, laid · DeriveParts: loops, laid · DeriveSums: loops, laid · DeriveLists: loops, laid · DeriveSteps: loops, laid · DeriveCounts: loops, laid · DeriveIdles: loops, laid · DeriveIdle: loops, laid · DeriveKnown: laid.
  DERIVED. THE GIVEN ROWS OF THIS SEAT. 10 by the template 'for every input the law returns true; each argument reads behind the call as it read before'; 0 by the template 'total and deterministic' (their statements: YtfgilinjaldhhaaGreatDoorTotals.lean).
  GIVEN WITH THE SEED: the statements are not yours to turn. If you find one false, say at which input.
  Laid BY PROGRAM, IN A SANDBOX (cutbox-rows.mjs): the forced cells as the released guide's own fill.sh prints them over the translation a2f7aaf34acfc8bc… (all of the seat's roots in one cut). By AI agents, Wed Nov 11 2026. No macro, syntax, notation, axiom, sorry.
-/
import Derived.Test.YtfgilinjaldhhaaGreatDoorChecked
import GoSem.PinnedTables
import GoSem.Claim
import GoSem.ClaimJoined
import GoSem.ClaimMapViews
import Derived.JoinedTies
import Derived.KernelRfl
namespace Go.Proofs.YtfgilinjaldhhaaGreatDoor
/- THE CELL 'sum', in the pinned program and in every row, IS THE sha256 OF THE DUMP (.gsa) THAT YtfgilinjaldhhaaGreatDoorProg.lean LOADS. Nothing in Lean hashes anything: it is a label: what it is worth is what the hold of that sum in a sandbox is worth. -/
noncomputable def Tryz.pinned : Pinned := { name := "ytfgilinjaldhhaagreatdoor", sum := "a2f7aaf34acfc8bc358fbb46ba6e822bc5d970d6ecd126dc6c887b5dba376eaf", checked := Tryz.checked }
namespace Rows
def none {H : Type} : Left H := { results := [], args := [] }

/- WHAT THE LISTED PACKAGE-LEVEL VARIABLES READ AS WHEN THE CALL BEGINS. Each datum BY PROGRAM (the guide's laid-datum.mjs) off the statement by which the dump's own 'gosem.cut.vars' lays the variable. In a bare row this is a premise. The card (YtfgilinjaldhhaaGreatDoorCards.lean) ties it to the program's text. -/
def laid_math_bits_deBruijn64tab {H : Type} : DataW H := .agg [.lit (.int .u8 0), .lit (.int .u8 1), .lit (.int .u8 56), .lit (.int .u8 2), .lit (.int .u8 57), .lit (.int .u8 49), .lit (.int .u8 28), .lit (.int .u8 3), .lit (.int .u8 61), .lit (.int .u8 58), .lit (.int .u8 42), .lit (.int .u8 50), .lit (.int .u8 38), .lit (.int .u8 29), .lit (.int .u8 17), .lit (.int .u8 4), .lit (.int .u8 62), .lit (.int .u8 47), .lit (.int .u8 59), .lit (.int .u8 36), .lit (.int .u8 45), .lit (.int .u8 43), .lit (.int .u8 51), .lit (.int .u8 22), .lit (.int .u8 53), .lit (.int .u8 39), .lit (.int .u8 33), .lit (.int .u8 30), .lit (.int .u8 24), .lit (.int .u8 18), .lit (.int .u8 12), .lit (.int .u8 5), .lit (.int .u8 63), .lit (.int .u8 55), .lit (.int .u8 48), .lit (.int .u8 27), .lit (.int .u8 60), .lit (.int .u8 41), .lit (.int .u8 37), .lit (.int .u8 16), .lit (.int .u8 46), .lit (.int .u8 35), .lit (.int .u8 44), .lit (.int .u8 21), .lit (.int .u8 52), .lit (.int .u8 32), .lit (.int .u8 23), .lit (.int .u8 11), .lit (.int .u8 54), .lit (.int .u8 26), .lit (.int .u8 40), .lit (.int .u8 15), .lit (.int .u8 34), .lit (.int .u8 20), .lit (.int .u8 31), .lit (.int .u8 10), .lit (.int .u8 25), .lit (.int .u8 14), .lit (.int .u8 19), .lit (.int .u8 9), .lit (.int .u8 13), .lit (.int .u8 8), .lit (.int .u8 7), .lit (.int .u8 6)]
def laid_unicode_utf8_acceptRanges {H : Type} : DataW H := .agg [.agg [.lit (.int .u8 128), .lit (.int .u8 191)], .agg [.lit (.int .u8 160), .lit (.int .u8 191)], .agg [.lit (.int .u8 128), .lit (.int .u8 159)], .agg [.lit (.int .u8 144), .lit (.int .u8 191)], .agg [.lit (.int .u8 128), .lit (.int .u8 143)], .agg [.lit (.int .u8 0), .lit (.int .u8 0)], .agg [.lit (.int .u8 0), .lit (.int .u8 0)], .agg [.lit (.int .u8 0), .lit (.int .u8 0)], .agg [.lit (.int .u8 0), .lit (.int .u8 0)], .agg [.lit (.int .u8 0), .lit (.int .u8 0)], .agg [.lit (.int .u8 0), .lit (.int .u8 0)], .agg [.lit (.int .u8 0), .lit (.int .u8 0)], .agg [.lit (.int .u8 0), .lit (.int .u8 0)], .agg [.lit (.int .u8 0), .lit (.int .u8 0)], .agg [.lit (.int .u8 0), .lit (.int .u8 0)], .agg [.lit (.int .u8 0), .lit (.int .u8 0)]]
/-- One of Go's own tables, pinned by name: the form's constant. -/
def laid_unicode_utf8_first : DataW Unit := Go.Pinned.utf8First

/-- 'ablautlaw10.DeriveSplits': WHATEVER THE INPUT: true; the input reads as it did. -/
def deriveSplitsSpec : ChangeSpec := { name := "deriveSplits", fn := fun _ => fun
  | [d1, d2, d3] => { results := [.lit (.bool true)], args := [d1, d2, d3] }
  | _ => none }
def deriveSplitsRow : OpenClaim := { program := "ytfgilinjaldhhaagreatdoor", sum := "a2f7aaf34acfc8bc358fbb46ba6e822bc5d970d6ecd126dc6c887b5dba376eaf", func := "ablaut/ablautlaw10.DeriveSplits", spec := "deriveSplits", inPlace := ["internal/bytealg.IndexByteString", "internal/bytealg.IndexString"], unfollowed := true, recurses := true, named := ["unicode/utf8.first", "unicode/utf8.acceptRanges", "math/bits.deBruijn64tab", "internal/bytealg.MaxLen"], loops := true, apart := false, laid := [("math/bits.deBruijn64tab", laid_math_bits_deBruijn64tab), ("unicode/utf8.acceptRanges", laid_unicode_utf8_acceptRanges), ("unicode/utf8.first", laid_unicode_utf8_first)] }
def DeriveSplitsSaid : Prop := deriveSplitsRow.holds Tryz.pinned (OpenSpec.ofChange deriveSplitsSpec)

/-- ITS FALSE NEIGHBOUR: 'it returns false'. Refute it at one input. -/
def deriveSplitsWrong : ChangeSpec := { name := "deriveSplits", fn := fun _ => fun
  | [d1, d2, d3] => { results := [.lit (.bool false)], args := [d1, d2, d3] }
  | _ => none }
def DeriveSplitsWrongFalsely : Prop := deriveSplitsRow.holds Tryz.pinned (OpenSpec.ofChange deriveSplitsWrong)

/-- 'ablautlaw10.DeriveSplit': WHATEVER THE INPUT: true; the input reads as it did. -/
def deriveSplitSpec : ChangeSpec := { name := "deriveSplit", fn := fun _ => fun
  | [d1, d2, d3] => { results := [.lit (.bool true)], args := [d1, d2, d3] }
  | _ => none }
def deriveSplitRow : OpenClaim := { program := "ytfgilinjaldhhaagreatdoor", sum := "a2f7aaf34acfc8bc358fbb46ba6e822bc5d970d6ecd126dc6c887b5dba376eaf", func := "ablaut/ablautlaw10.DeriveSplit", spec := "deriveSplit", inPlace := ["internal/bytealg.IndexByteString", "internal/bytealg.IndexString"], unfollowed := true, recurses := true, named := ["unicode/utf8.first", "unicode/utf8.acceptRanges", "math/bits.deBruijn64tab", "internal/bytealg.MaxLen"], loops := true, apart := false, laid := [("math/bits.deBruijn64tab", laid_math_bits_deBruijn64tab), ("unicode/utf8.acceptRanges", laid_unicode_utf8_acceptRanges), ("unicode/utf8.first", laid_unicode_utf8_first)] }
def DeriveSplitSaid : Prop := deriveSplitRow.holds Tryz.pinned (OpenSpec.ofChange deriveSplitSpec)

/-- ITS FALSE NEIGHBOUR: 'it returns false'. Refute it at one input. -/
def deriveSplitWrong : ChangeSpec := { name := "deriveSplit", fn := fun _ => fun
  | [d1, d2, d3] => { results := [.lit (.bool false)], args := [d1, d2, d3] }
  | _ => none }
def DeriveSplitWrongFalsely : Prop := deriveSplitRow.holds Tryz.pinned (OpenSpec.ofChange deriveSplitWrong)

/-- 'ablautlaw10.DeriveParts': WHATEVER THE INPUT: true; the input reads as it did. -/
def derivePartsSpec : ChangeSpec := { name := "deriveParts", fn := fun _ => fun
  | [d1, d2, d3, d4] => { results := [.lit (.bool true)], args := [d1, d2, d3, d4] }
  | _ => none }
def derivePartsRow : OpenClaim := { program := "ytfgilinjaldhhaagreatdoor", sum := "a2f7aaf34acfc8bc358fbb46ba6e822bc5d970d6ecd126dc6c887b5dba376eaf", func := "ablaut/ablautlaw10.DeriveParts", spec := "deriveParts", inPlace := ["internal/bytealg.IndexByteString", "internal/bytealg.IndexString"], unfollowed := true, recurses := true, named := ["unicode/utf8.first", "unicode/utf8.acceptRanges", "math/bits.deBruijn64tab", "internal/bytealg.MaxLen"], loops := true, apart := false, laid := [("math/bits.deBruijn64tab", laid_math_bits_deBruijn64tab), ("unicode/utf8.acceptRanges", laid_unicode_utf8_acceptRanges), ("unicode/utf8.first", laid_unicode_utf8_first)] }
def DerivePartsSaid : Prop := derivePartsRow.holds Tryz.pinned (OpenSpec.ofChange derivePartsSpec)

/-- ITS FALSE NEIGHBOUR: 'it returns false'. Refute it at one input. -/
def derivePartsWrong : ChangeSpec := { name := "deriveParts", fn := fun _ => fun
  | [d1, d2, d3, d4] => { results := [.lit (.bool false)], args := [d1, d2, d3, d4] }
  | _ => none }
def DerivePartsWrongFalsely : Prop := derivePartsRow.holds Tryz.pinned (OpenSpec.ofChange derivePartsWrong)

/-- 'ablautlaw10.DeriveSums': WHATEVER THE INPUT: true; the input reads as it did. -/
def deriveSumsSpec : ChangeSpec := { name := "deriveSums", fn := fun _ => fun
  | [d1, d2, d3] => { results := [.lit (.bool true)], args := [d1, d2, d3] }
  | _ => none }
def deriveSumsRow : OpenClaim := { program := "ytfgilinjaldhhaagreatdoor", sum := "a2f7aaf34acfc8bc358fbb46ba6e822bc5d970d6ecd126dc6c887b5dba376eaf", func := "ablaut/ablautlaw10.DeriveSums", spec := "deriveSums", inPlace := ["internal/bytealg.IndexByteString", "internal/bytealg.IndexString"], unfollowed := true, recurses := true, named := ["unicode/utf8.first", "unicode/utf8.acceptRanges", "math/bits.deBruijn64tab", "internal/bytealg.MaxLen"], loops := true, apart := false, laid := [("math/bits.deBruijn64tab", laid_math_bits_deBruijn64tab), ("unicode/utf8.acceptRanges", laid_unicode_utf8_acceptRanges), ("unicode/utf8.first", laid_unicode_utf8_first)] }
def DeriveSumsSaid : Prop := deriveSumsRow.holds Tryz.pinned (OpenSpec.ofChange deriveSumsSpec)

/-- ITS FALSE NEIGHBOUR: 'it returns false'. Refute it at one input. -/
def deriveSumsWrong : ChangeSpec := { name := "deriveSums", fn := fun _ => fun
  | [d1, d2, d3] => { results := [.lit (.bool false)], args := [d1, d2, d3] }
  | _ => none }
def DeriveSumsWrongFalsely : Prop := deriveSumsRow.holds Tryz.pinned (OpenSpec.ofChange deriveSumsWrong)

/-- 'ablautlaw10.DeriveLists': WHATEVER THE INPUT: true; the input reads as it did. -/
def deriveListsSpec : ChangeSpec := { name := "deriveLists", fn := fun _ => fun
  | [d1, d2] => { results := [.lit (.bool true)], args := [d1, d2] }
  | _ => none }
def deriveListsRow : OpenClaim := { program := "ytfgilinjaldhhaagreatdoor", sum := "a2f7aaf34acfc8bc358fbb46ba6e822bc5d970d6ecd126dc6c887b5dba376eaf", func := "ablaut/ablautlaw10.DeriveLists", spec := "deriveLists", inPlace := ["internal/bytealg.IndexByteString", "internal/bytealg.IndexString"], unfollowed := true, recurses := true, named := ["unicode/utf8.first", "unicode/utf8.acceptRanges", "math/bits.deBruijn64tab", "internal/bytealg.MaxLen"], loops := true, apart := false, laid := [("math/bits.deBruijn64tab", laid_math_bits_deBruijn64tab), ("unicode/utf8.acceptRanges", laid_unicode_utf8_acceptRanges), ("unicode/utf8.first", laid_unicode_utf8_first)] }
def DeriveListsSaid : Prop := deriveListsRow.holds Tryz.pinned (OpenSpec.ofChange deriveListsSpec)

/-- ITS FALSE NEIGHBOUR: 'it returns false'. Refute it at one input. -/
def deriveListsWrong : ChangeSpec := { name := "deriveLists", fn := fun _ => fun
  | [d1, d2] => { results := [.lit (.bool false)], args := [d1, d2] }
  | _ => none }
def DeriveListsWrongFalsely : Prop := deriveListsRow.holds Tryz.pinned (OpenSpec.ofChange deriveListsWrong)

/-- 'ablautlaw10.DeriveSteps': WHATEVER THE INPUT: true; the input reads as it did. -/
def deriveStepsSpec : ChangeSpec := { name := "deriveSteps", fn := fun _ => fun
  | [d1, d2] => { results := [.lit (.bool true)], args := [d1, d2] }
  | _ => none }
def deriveStepsRow : OpenClaim := { program := "ytfgilinjaldhhaagreatdoor", sum := "a2f7aaf34acfc8bc358fbb46ba6e822bc5d970d6ecd126dc6c887b5dba376eaf", func := "ablaut/ablautlaw10.DeriveSteps", spec := "deriveSteps", inPlace := ["internal/bytealg.IndexByteString", "internal/bytealg.IndexString"], unfollowed := true, recurses := true, named := ["unicode/utf8.first", "unicode/utf8.acceptRanges", "math/bits.deBruijn64tab", "internal/bytealg.MaxLen"], loops := true, apart := false, laid := [("math/bits.deBruijn64tab", laid_math_bits_deBruijn64tab), ("unicode/utf8.acceptRanges", laid_unicode_utf8_acceptRanges), ("unicode/utf8.first", laid_unicode_utf8_first)] }
def DeriveStepsSaid : Prop := deriveStepsRow.holds Tryz.pinned (OpenSpec.ofChange deriveStepsSpec)

/-- ITS FALSE NEIGHBOUR: 'it returns false'. Refute it at one input. -/
def deriveStepsWrong : ChangeSpec := { name := "deriveSteps", fn := fun _ => fun
  | [d1, d2] => { results := [.lit (.bool false)], args := [d1, d2] }
  | _ => none }
def DeriveStepsWrongFalsely : Prop := deriveStepsRow.holds Tryz.pinned (OpenSpec.ofChange deriveStepsWrong)

/-- 'ablautlaw10.DeriveCounts': WHATEVER THE INPUT: true; the input reads as it did. -/
def deriveCountsSpec : ChangeSpec := { name := "deriveCounts", fn := fun _ => fun
  | [d1, d2] => { results := [.lit (.bool true)], args := [d1, d2] }
  | _ => none }
def deriveCountsRow : OpenClaim := { program := "ytfgilinjaldhhaagreatdoor", sum := "a2f7aaf34acfc8bc358fbb46ba6e822bc5d970d6ecd126dc6c887b5dba376eaf", func := "ablaut/ablautlaw10.DeriveCounts", spec := "deriveCounts", inPlace := ["internal/bytealg.IndexByteString", "internal/bytealg.IndexString"], unfollowed := true, recurses := true, named := ["unicode/utf8.first", "unicode/utf8.acceptRanges", "math/bits.deBruijn64tab", "internal/bytealg.MaxLen"], loops := true, apart := false, laid := [("math/bits.deBruijn64tab", laid_math_bits_deBruijn64tab), ("unicode/utf8.acceptRanges", laid_unicode_utf8_acceptRanges), ("unicode/utf8.first", laid_unicode_utf8_first)] }
def DeriveCountsSaid : Prop := deriveCountsRow.holds Tryz.pinned (OpenSpec.ofChange deriveCountsSpec)

/-- ITS FALSE NEIGHBOUR: 'it returns false'. Refute it at one input. -/
def deriveCountsWrong : ChangeSpec := { name := "deriveCounts", fn := fun _ => fun
  | [d1, d2] => { results := [.lit (.bool false)], args := [d1, d2] }
  | _ => none }
def DeriveCountsWrongFalsely : Prop := deriveCountsRow.holds Tryz.pinned (OpenSpec.ofChange deriveCountsWrong)

/-- 'ablautlaw10.DeriveIdles': WHATEVER THE INPUT: true; the input reads as it did. -/
def deriveIdlesSpec : ChangeSpec := { name := "deriveIdles", fn := fun _ => fun
  | [d1, d2] => { results := [.lit (.bool true)], args := [d1, d2] }
  | _ => none }
def deriveIdlesRow : OpenClaim := { program := "ytfgilinjaldhhaagreatdoor", sum := "a2f7aaf34acfc8bc358fbb46ba6e822bc5d970d6ecd126dc6c887b5dba376eaf", func := "ablaut/ablautlaw10.DeriveIdles", spec := "deriveIdles", inPlace := ["internal/bytealg.IndexByteString", "internal/bytealg.IndexString"], unfollowed := true, recurses := true, named := ["unicode/utf8.first", "unicode/utf8.acceptRanges", "math/bits.deBruijn64tab", "internal/bytealg.MaxLen"], loops := true, apart := false, laid := [("math/bits.deBruijn64tab", laid_math_bits_deBruijn64tab), ("unicode/utf8.acceptRanges", laid_unicode_utf8_acceptRanges), ("unicode/utf8.first", laid_unicode_utf8_first)] }
def DeriveIdlesSaid : Prop := deriveIdlesRow.holds Tryz.pinned (OpenSpec.ofChange deriveIdlesSpec)

/-- ITS FALSE NEIGHBOUR: 'it returns false'. Refute it at one input. -/
def deriveIdlesWrong : ChangeSpec := { name := "deriveIdles", fn := fun _ => fun
  | [d1, d2] => { results := [.lit (.bool false)], args := [d1, d2] }
  | _ => none }
def DeriveIdlesWrongFalsely : Prop := deriveIdlesRow.holds Tryz.pinned (OpenSpec.ofChange deriveIdlesWrong)

/-- 'ablautlaw10.DeriveIdle': WHATEVER THE INPUT: true; the input reads as it did. -/
def deriveIdleSpec : ChangeSpec := { name := "deriveIdle", fn := fun _ => fun
  | [d1, d2, d3] => { results := [.lit (.bool true)], args := [d1, d2, d3] }
  | _ => none }
def deriveIdleRow : OpenClaim := { program := "ytfgilinjaldhhaagreatdoor", sum := "a2f7aaf34acfc8bc358fbb46ba6e822bc5d970d6ecd126dc6c887b5dba376eaf", func := "ablaut/ablautlaw10.DeriveIdle", spec := "deriveIdle", inPlace := ["internal/bytealg.IndexByteString", "internal/bytealg.IndexString"], unfollowed := true, recurses := true, named := ["unicode/utf8.first", "unicode/utf8.acceptRanges", "math/bits.deBruijn64tab", "internal/bytealg.MaxLen"], loops := true, apart := false, laid := [("math/bits.deBruijn64tab", laid_math_bits_deBruijn64tab), ("unicode/utf8.acceptRanges", laid_unicode_utf8_acceptRanges), ("unicode/utf8.first", laid_unicode_utf8_first)] }
def DeriveIdleSaid : Prop := deriveIdleRow.holds Tryz.pinned (OpenSpec.ofChange deriveIdleSpec)

/-- ITS FALSE NEIGHBOUR: 'it returns false'. Refute it at one input. -/
def deriveIdleWrong : ChangeSpec := { name := "deriveIdle", fn := fun _ => fun
  | [d1, d2, d3] => { results := [.lit (.bool false)], args := [d1, d2, d3] }
  | _ => none }
def DeriveIdleWrongFalsely : Prop := deriveIdleRow.holds Tryz.pinned (OpenSpec.ofChange deriveIdleWrong)

/-- 'ablautlaw10.DeriveKnown': WHATEVER THE INPUT: true; the input reads as it did. -/
def deriveKnownSpec : ChangeSpec := { name := "deriveKnown", fn := fun _ => fun
  | [] => { results := [.lit (.bool true)], args := [] }
  | _ => none }
def deriveKnownRow : OpenClaim := { program := "ytfgilinjaldhhaagreatdoor", sum := "a2f7aaf34acfc8bc358fbb46ba6e822bc5d970d6ecd126dc6c887b5dba376eaf", func := "ablaut/ablautlaw10.DeriveKnown", spec := "deriveKnown", inPlace := ["internal/bytealg.IndexByteString", "internal/bytealg.IndexString"], unfollowed := true, recurses := true, named := ["unicode/utf8.first", "unicode/utf8.acceptRanges", "math/bits.deBruijn64tab", "internal/bytealg.MaxLen"], apart := false, laid := [("math/bits.deBruijn64tab", laid_math_bits_deBruijn64tab), ("unicode/utf8.acceptRanges", laid_unicode_utf8_acceptRanges), ("unicode/utf8.first", laid_unicode_utf8_first)] }
def DeriveKnownSaid : Prop := deriveKnownRow.holds Tryz.pinned (OpenSpec.ofChange deriveKnownSpec)

/-- ITS FALSE NEIGHBOUR: 'it returns false'. Refute it at one input. -/
def deriveKnownWrong : ChangeSpec := { name := "deriveKnown", fn := fun _ => fun
  | [] => { results := [.lit (.bool false)], args := [] }
  | _ => none }
def DeriveKnownWrongFalsely : Prop := deriveKnownRow.holds Tryz.pinned (OpenSpec.ofChange deriveKnownWrong)

/- THE SECOND FORM. 'bulk': how many values and letters a reading holds, each counted each time it is reached (what is shared counts as often as it is met; a slice's spare places count too). A statement '..UptoSaid' is the law's where the arguments, and the package variables that the reading takes, are together of bulk at most 1048576: NARROWER than '..Said'. Prove '..Said' where nothing that the law and all that it calls make is longer than what came in: it says more and counts as full. Else prove '..UptoSaid'. A law counts once. -/
mutual
def uptoBulk {H : Type} : DataW H → Nat
  | .lit (.string bytes) => bytes.length + 1
  | .lit _ => 1
  | .nil => 1
  | .ptr d => uptoBulk d + 1
  | .slice elems spare => uptoBulkAll elems + uptoBulkAll spare + 1
  | .agg parts => uptoBulkAll parts + 1
  | .iface _ d => uptoBulk d + 1
  | .map entries => uptoBulkEntries entries + 1
  | .held _ => 1
def uptoBulkAll {H : Type} : List (DataW H) → Nat
  | [] => 0
  | d :: r => uptoBulk d + uptoBulkAll r
def uptoBulkEntries {H : Type} : List (Lit × DataW H) → Nat
  | [] => 0
  | x :: r => uptoBulkEntry x + uptoBulkEntries r
def uptoBulkEntry {H : Type} : Lit × DataW H → Nat
  | (.string bytes, d) => bytes.length + uptoBulk d + 1
  | (_, d) => uptoBulk d + 1
 end
def uptoSmall : (H : Type) → List (DataW H) → Bool := fun _ ds => decide (uptoBulkAll ds ≤ 1048576)
def OpenSpec.upto (s : _root_.Go.ChangeSpec) : _root_.Go.OpenSpec := { _root_.Go.OpenSpec.ofChange s with cond := some uptoSmall }

/-- 'ablautlaw10.DeriveSplits', WHERE WHAT IT READS IS OF BULK AT MOST 1048576: true; the input reads as it did. -/
def deriveSplitsUptoRow : OpenClaim := { program := "ytfgilinjaldhhaagreatdoor", sum := "a2f7aaf34acfc8bc358fbb46ba6e822bc5d970d6ecd126dc6c887b5dba376eaf", func := "ablaut/ablautlaw10.DeriveSplits", spec := "deriveSplits", inPlace := ["internal/bytealg.IndexByteString", "internal/bytealg.IndexString"], unfollowed := true, recurses := true, named := ["unicode/utf8.first", "unicode/utf8.acceptRanges", "math/bits.deBruijn64tab", "internal/bytealg.MaxLen"], loops := true, apart := false, laid := [("math/bits.deBruijn64tab", laid_math_bits_deBruijn64tab), ("unicode/utf8.acceptRanges", laid_unicode_utf8_acceptRanges), ("unicode/utf8.first", laid_unicode_utf8_first)], narrowed := true }
def DeriveSplitsUptoSaid : Prop := deriveSplitsUptoRow.holds Tryz.pinned (OpenSpec.upto deriveSplitsSpec)

/-- 'ablautlaw10.DeriveSplit', WHERE WHAT IT READS IS OF BULK AT MOST 1048576: true; the input reads as it did. -/
def deriveSplitUptoRow : OpenClaim := { program := "ytfgilinjaldhhaagreatdoor", sum := "a2f7aaf34acfc8bc358fbb46ba6e822bc5d970d6ecd126dc6c887b5dba376eaf", func := "ablaut/ablautlaw10.DeriveSplit", spec := "deriveSplit", inPlace := ["internal/bytealg.IndexByteString", "internal/bytealg.IndexString"], unfollowed := true, recurses := true, named := ["unicode/utf8.first", "unicode/utf8.acceptRanges", "math/bits.deBruijn64tab", "internal/bytealg.MaxLen"], loops := true, apart := false, laid := [("math/bits.deBruijn64tab", laid_math_bits_deBruijn64tab), ("unicode/utf8.acceptRanges", laid_unicode_utf8_acceptRanges), ("unicode/utf8.first", laid_unicode_utf8_first)], narrowed := true }
def DeriveSplitUptoSaid : Prop := deriveSplitUptoRow.holds Tryz.pinned (OpenSpec.upto deriveSplitSpec)

/-- 'ablautlaw10.DeriveParts', WHERE WHAT IT READS IS OF BULK AT MOST 1048576: true; the input reads as it did. -/
def derivePartsUptoRow : OpenClaim := { program := "ytfgilinjaldhhaagreatdoor", sum := "a2f7aaf34acfc8bc358fbb46ba6e822bc5d970d6ecd126dc6c887b5dba376eaf", func := "ablaut/ablautlaw10.DeriveParts", spec := "deriveParts", inPlace := ["internal/bytealg.IndexByteString", "internal/bytealg.IndexString"], unfollowed := true, recurses := true, named := ["unicode/utf8.first", "unicode/utf8.acceptRanges", "math/bits.deBruijn64tab", "internal/bytealg.MaxLen"], loops := true, apart := false, laid := [("math/bits.deBruijn64tab", laid_math_bits_deBruijn64tab), ("unicode/utf8.acceptRanges", laid_unicode_utf8_acceptRanges), ("unicode/utf8.first", laid_unicode_utf8_first)], narrowed := true }
def DerivePartsUptoSaid : Prop := derivePartsUptoRow.holds Tryz.pinned (OpenSpec.upto derivePartsSpec)

/-- 'ablautlaw10.DeriveSums', WHERE WHAT IT READS IS OF BULK AT MOST 1048576: true; the input reads as it did. -/
def deriveSumsUptoRow : OpenClaim := { program := "ytfgilinjaldhhaagreatdoor", sum := "a2f7aaf34acfc8bc358fbb46ba6e822bc5d970d6ecd126dc6c887b5dba376eaf", func := "ablaut/ablautlaw10.DeriveSums", spec := "deriveSums", inPlace := ["internal/bytealg.IndexByteString", "internal/bytealg.IndexString"], unfollowed := true, recurses := true, named := ["unicode/utf8.first", "unicode/utf8.acceptRanges", "math/bits.deBruijn64tab", "internal/bytealg.MaxLen"], loops := true, apart := false, laid := [("math/bits.deBruijn64tab", laid_math_bits_deBruijn64tab), ("unicode/utf8.acceptRanges", laid_unicode_utf8_acceptRanges), ("unicode/utf8.first", laid_unicode_utf8_first)], narrowed := true }
def DeriveSumsUptoSaid : Prop := deriveSumsUptoRow.holds Tryz.pinned (OpenSpec.upto deriveSumsSpec)

/-- 'ablautlaw10.DeriveLists', WHERE WHAT IT READS IS OF BULK AT MOST 1048576: true; the input reads as it did. -/
def deriveListsUptoRow : OpenClaim := { program := "ytfgilinjaldhhaagreatdoor", sum := "a2f7aaf34acfc8bc358fbb46ba6e822bc5d970d6ecd126dc6c887b5dba376eaf", func := "ablaut/ablautlaw10.DeriveLists", spec := "deriveLists", inPlace := ["internal/bytealg.IndexByteString", "internal/bytealg.IndexString"], unfollowed := true, recurses := true, named := ["unicode/utf8.first", "unicode/utf8.acceptRanges", "math/bits.deBruijn64tab", "internal/bytealg.MaxLen"], loops := true, apart := false, laid := [("math/bits.deBruijn64tab", laid_math_bits_deBruijn64tab), ("unicode/utf8.acceptRanges", laid_unicode_utf8_acceptRanges), ("unicode/utf8.first", laid_unicode_utf8_first)], narrowed := true }
def DeriveListsUptoSaid : Prop := deriveListsUptoRow.holds Tryz.pinned (OpenSpec.upto deriveListsSpec)

/-- 'ablautlaw10.DeriveSteps', WHERE WHAT IT READS IS OF BULK AT MOST 1048576: true; the input reads as it did. -/
def deriveStepsUptoRow : OpenClaim := { program := "ytfgilinjaldhhaagreatdoor", sum := "a2f7aaf34acfc8bc358fbb46ba6e822bc5d970d6ecd126dc6c887b5dba376eaf", func := "ablaut/ablautlaw10.DeriveSteps", spec := "deriveSteps", inPlace := ["internal/bytealg.IndexByteString", "internal/bytealg.IndexString"], unfollowed := true, recurses := true, named := ["unicode/utf8.first", "unicode/utf8.acceptRanges", "math/bits.deBruijn64tab", "internal/bytealg.MaxLen"], loops := true, apart := false, laid := [("math/bits.deBruijn64tab", laid_math_bits_deBruijn64tab), ("unicode/utf8.acceptRanges", laid_unicode_utf8_acceptRanges), ("unicode/utf8.first", laid_unicode_utf8_first)], narrowed := true }
def DeriveStepsUptoSaid : Prop := deriveStepsUptoRow.holds Tryz.pinned (OpenSpec.upto deriveStepsSpec)

/-- 'ablautlaw10.DeriveCounts', WHERE WHAT IT READS IS OF BULK AT MOST 1048576: true; the input reads as it did. -/
def deriveCountsUptoRow : OpenClaim := { program := "ytfgilinjaldhhaagreatdoor", sum := "a2f7aaf34acfc8bc358fbb46ba6e822bc5d970d6ecd126dc6c887b5dba376eaf", func := "ablaut/ablautlaw10.DeriveCounts", spec := "deriveCounts", inPlace := ["internal/bytealg.IndexByteString", "internal/bytealg.IndexString"], unfollowed := true, recurses := true, named := ["unicode/utf8.first", "unicode/utf8.acceptRanges", "math/bits.deBruijn64tab", "internal/bytealg.MaxLen"], loops := true, apart := false, laid := [("math/bits.deBruijn64tab", laid_math_bits_deBruijn64tab), ("unicode/utf8.acceptRanges", laid_unicode_utf8_acceptRanges), ("unicode/utf8.first", laid_unicode_utf8_first)], narrowed := true }
def DeriveCountsUptoSaid : Prop := deriveCountsUptoRow.holds Tryz.pinned (OpenSpec.upto deriveCountsSpec)

/-- 'ablautlaw10.DeriveIdles', WHERE WHAT IT READS IS OF BULK AT MOST 1048576: true; the input reads as it did. -/
def deriveIdlesUptoRow : OpenClaim := { program := "ytfgilinjaldhhaagreatdoor", sum := "a2f7aaf34acfc8bc358fbb46ba6e822bc5d970d6ecd126dc6c887b5dba376eaf", func := "ablaut/ablautlaw10.DeriveIdles", spec := "deriveIdles", inPlace := ["internal/bytealg.IndexByteString", "internal/bytealg.IndexString"], unfollowed := true, recurses := true, named := ["unicode/utf8.first", "unicode/utf8.acceptRanges", "math/bits.deBruijn64tab", "internal/bytealg.MaxLen"], loops := true, apart := false, laid := [("math/bits.deBruijn64tab", laid_math_bits_deBruijn64tab), ("unicode/utf8.acceptRanges", laid_unicode_utf8_acceptRanges), ("unicode/utf8.first", laid_unicode_utf8_first)], narrowed := true }
def DeriveIdlesUptoSaid : Prop := deriveIdlesUptoRow.holds Tryz.pinned (OpenSpec.upto deriveIdlesSpec)

/-- 'ablautlaw10.DeriveIdle', WHERE WHAT IT READS IS OF BULK AT MOST 1048576: true; the input reads as it did. -/
def deriveIdleUptoRow : OpenClaim := { program := "ytfgilinjaldhhaagreatdoor", sum := "a2f7aaf34acfc8bc358fbb46ba6e822bc5d970d6ecd126dc6c887b5dba376eaf", func := "ablaut/ablautlaw10.DeriveIdle", spec := "deriveIdle", inPlace := ["internal/bytealg.IndexByteString", "internal/bytealg.IndexString"], unfollowed := true, recurses := true, named := ["unicode/utf8.first", "unicode/utf8.acceptRanges", "math/bits.deBruijn64tab", "internal/bytealg.MaxLen"], loops := true, apart := false, laid := [("math/bits.deBruijn64tab", laid_math_bits_deBruijn64tab), ("unicode/utf8.acceptRanges", laid_unicode_utf8_acceptRanges), ("unicode/utf8.first", laid_unicode_utf8_first)], narrowed := true }
def DeriveIdleUptoSaid : Prop := deriveIdleUptoRow.holds Tryz.pinned (OpenSpec.upto deriveIdleSpec)

/-- 'ablautlaw10.DeriveKnown', WHERE WHAT IT READS IS OF BULK AT MOST 1048576: true; the input reads as it did. -/
def deriveKnownUptoRow : OpenClaim := { program := "ytfgilinjaldhhaagreatdoor", sum := "a2f7aaf34acfc8bc358fbb46ba6e822bc5d970d6ecd126dc6c887b5dba376eaf", func := "ablaut/ablautlaw10.DeriveKnown", spec := "deriveKnown", inPlace := ["internal/bytealg.IndexByteString", "internal/bytealg.IndexString"], unfollowed := true, recurses := true, named := ["unicode/utf8.first", "unicode/utf8.acceptRanges", "math/bits.deBruijn64tab", "internal/bytealg.MaxLen"], apart := false, laid := [("math/bits.deBruijn64tab", laid_math_bits_deBruijn64tab), ("unicode/utf8.acceptRanges", laid_unicode_utf8_acceptRanges), ("unicode/utf8.first", laid_unicode_utf8_first)], narrowed := true }
def DeriveKnownUptoSaid : Prop := deriveKnownUptoRow.holds Tryz.pinned (OpenSpec.upto deriveKnownSpec)

end Rows
end Go.Proofs.YtfgilinjaldhhaaGreatDoor

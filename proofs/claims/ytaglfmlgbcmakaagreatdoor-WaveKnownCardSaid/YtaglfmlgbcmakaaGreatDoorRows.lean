/-
  NARROWER THAN 'FOR EVERY INPUT', by the rows' own cells (each row's printed sentence says how): TopWaves: loops, laid · TopIsoglosses: loops, laid · WaveLines: loops, laid · WaveCrosses: loops, laid · WaveGrows: loops, laid · WaveOrders: loops, laid · WaveStarts: loops, laid · WaveArrives: loops, laid · WaveNearest: loops, laid · WaveForms: loops, laid · WaveDerives: loops, laid · WaveKnown: laid.
  DERIVED. THE GIVEN ROWS OF THIS SEAT. 12 by the template 'for every input the law returns true; each argument reads behind the call as it read before'; 0 by the template 'total and deterministic' (their statements: YtaglfmlgbcmakaaGreatDoorTotals.lean).
  GIVEN WITH THE SEED: the statements are not yours to turn. If you find one false, say at which input.
  Laid BY PROGRAM, IN A SANDBOX (cutbox-rows.mjs): the forced cells as the released guide's own fill.sh prints them over the translation 3e243185207af86c… (all of the seat's roots in one cut). By AI agents, Wed Nov 11 2026. No macro, syntax, notation, axiom, sorry.
-/
import Derived.Test.YtaglfmlgbcmakaaGreatDoorChecked
import GoSem.PinnedTables
import GoSem.Claim
import GoSem.ClaimJoined
import GoSem.ClaimMapViews
import Derived.JoinedTies
import Derived.KernelRfl
namespace Go.Proofs.YtaglfmlgbcmakaaGreatDoor
/- THE CELL 'sum', in the pinned program and in every row, IS THE sha256 OF THE DUMP (.gsa) THAT YtaglfmlgbcmakaaGreatDoorProg.lean LOADS. Nothing in Lean hashes anything: it is a label: what it is worth is what the hold of that sum in a sandbox is worth. -/
noncomputable def Tryz.pinned : Pinned := { name := "ytaglfmlgbcmakaagreatdoor", sum := "3e243185207af86c758be73401f0cc1ec6b6b18089adb06ac27494e6d9e00322", checked := Tryz.checked }
namespace Rows
def none {H : Type} : Left H := { results := [], args := [] }

/- WHAT THE LISTED PACKAGE-LEVEL VARIABLES READ AS WHEN THE CALL BEGINS. Each datum BY PROGRAM (the guide's laid-datum.mjs) off the statement by which the dump's own 'gosem.cut.vars' lays the variable. In a bare row this is a premise. The card (YtaglfmlgbcmakaaGreatDoorCards.lean) ties it to the program's text. -/
def laid_math_bits_deBruijn64tab {H : Type} : DataW H := .agg [.lit (.int .u8 0), .lit (.int .u8 1), .lit (.int .u8 56), .lit (.int .u8 2), .lit (.int .u8 57), .lit (.int .u8 49), .lit (.int .u8 28), .lit (.int .u8 3), .lit (.int .u8 61), .lit (.int .u8 58), .lit (.int .u8 42), .lit (.int .u8 50), .lit (.int .u8 38), .lit (.int .u8 29), .lit (.int .u8 17), .lit (.int .u8 4), .lit (.int .u8 62), .lit (.int .u8 47), .lit (.int .u8 59), .lit (.int .u8 36), .lit (.int .u8 45), .lit (.int .u8 43), .lit (.int .u8 51), .lit (.int .u8 22), .lit (.int .u8 53), .lit (.int .u8 39), .lit (.int .u8 33), .lit (.int .u8 30), .lit (.int .u8 24), .lit (.int .u8 18), .lit (.int .u8 12), .lit (.int .u8 5), .lit (.int .u8 63), .lit (.int .u8 55), .lit (.int .u8 48), .lit (.int .u8 27), .lit (.int .u8 60), .lit (.int .u8 41), .lit (.int .u8 37), .lit (.int .u8 16), .lit (.int .u8 46), .lit (.int .u8 35), .lit (.int .u8 44), .lit (.int .u8 21), .lit (.int .u8 52), .lit (.int .u8 32), .lit (.int .u8 23), .lit (.int .u8 11), .lit (.int .u8 54), .lit (.int .u8 26), .lit (.int .u8 40), .lit (.int .u8 15), .lit (.int .u8 34), .lit (.int .u8 20), .lit (.int .u8 31), .lit (.int .u8 10), .lit (.int .u8 25), .lit (.int .u8 14), .lit (.int .u8 19), .lit (.int .u8 9), .lit (.int .u8 13), .lit (.int .u8 8), .lit (.int .u8 7), .lit (.int .u8 6)]
def laid_unicode_utf8_acceptRanges {H : Type} : DataW H := .agg [.agg [.lit (.int .u8 128), .lit (.int .u8 191)], .agg [.lit (.int .u8 160), .lit (.int .u8 191)], .agg [.lit (.int .u8 128), .lit (.int .u8 159)], .agg [.lit (.int .u8 144), .lit (.int .u8 191)], .agg [.lit (.int .u8 128), .lit (.int .u8 143)], .agg [.lit (.int .u8 0), .lit (.int .u8 0)], .agg [.lit (.int .u8 0), .lit (.int .u8 0)], .agg [.lit (.int .u8 0), .lit (.int .u8 0)], .agg [.lit (.int .u8 0), .lit (.int .u8 0)], .agg [.lit (.int .u8 0), .lit (.int .u8 0)], .agg [.lit (.int .u8 0), .lit (.int .u8 0)], .agg [.lit (.int .u8 0), .lit (.int .u8 0)], .agg [.lit (.int .u8 0), .lit (.int .u8 0)], .agg [.lit (.int .u8 0), .lit (.int .u8 0)], .agg [.lit (.int .u8 0), .lit (.int .u8 0)], .agg [.lit (.int .u8 0), .lit (.int .u8 0)]]
/-- One of Go's own tables, pinned by name: the form's constant. -/
def laid_unicode_utf8_first : DataW Unit := Go.Pinned.utf8First

/-- 'ablauttop.TopWaves': WHATEVER THE INPUT: true; the input reads as it did. -/
def topWavesSpec : ChangeSpec := { name := "topWaves", fn := fun _ => fun
  | [d1, d2, d3, d4, d5] => { results := [.lit (.bool true)], args := [d1, d2, d3, d4, d5] }
  | _ => none }
def topWavesRow : OpenClaim := { program := "ytaglfmlgbcmakaagreatdoor", sum := "3e243185207af86c758be73401f0cc1ec6b6b18089adb06ac27494e6d9e00322", func := "ablaut/ablauttop.TopWaves", spec := "topWaves", inPlace := ["internal/bytealg.IndexByteString", "internal/bytealg.IndexString"], unfollowed := true, recurses := true, named := ["unicode/utf8.first", "unicode/utf8.acceptRanges", "math/bits.deBruijn64tab", "internal/bytealg.MaxLen"], loops := true, apart := false, laid := [("math/bits.deBruijn64tab", laid_math_bits_deBruijn64tab), ("unicode/utf8.acceptRanges", laid_unicode_utf8_acceptRanges), ("unicode/utf8.first", laid_unicode_utf8_first)] }
def TopWavesSaid : Prop := topWavesRow.holds Tryz.pinned (OpenSpec.ofChange topWavesSpec)

/-- ITS FALSE NEIGHBOUR: 'it returns false'. Refute it at one input. -/
def topWavesWrong : ChangeSpec := { name := "topWaves", fn := fun _ => fun
  | [d1, d2, d3, d4, d5] => { results := [.lit (.bool false)], args := [d1, d2, d3, d4, d5] }
  | _ => none }
def TopWavesWrongFalsely : Prop := topWavesRow.holds Tryz.pinned (OpenSpec.ofChange topWavesWrong)

/-- 'ablauttop.TopIsoglosses': WHATEVER THE INPUT: true; the input reads as it did. -/
def topIsoglossesSpec : ChangeSpec := { name := "topIsoglosses", fn := fun _ => fun
  | [d1, d2, d3, d4, d5] => { results := [.lit (.bool true)], args := [d1, d2, d3, d4, d5] }
  | _ => none }
def topIsoglossesRow : OpenClaim := { program := "ytaglfmlgbcmakaagreatdoor", sum := "3e243185207af86c758be73401f0cc1ec6b6b18089adb06ac27494e6d9e00322", func := "ablaut/ablauttop.TopIsoglosses", spec := "topIsoglosses", inPlace := ["internal/bytealg.IndexByteString", "internal/bytealg.IndexString"], unfollowed := true, recurses := true, named := ["unicode/utf8.first", "unicode/utf8.acceptRanges", "math/bits.deBruijn64tab", "internal/bytealg.MaxLen"], loops := true, apart := false, laid := [("math/bits.deBruijn64tab", laid_math_bits_deBruijn64tab), ("unicode/utf8.acceptRanges", laid_unicode_utf8_acceptRanges), ("unicode/utf8.first", laid_unicode_utf8_first)] }
def TopIsoglossesSaid : Prop := topIsoglossesRow.holds Tryz.pinned (OpenSpec.ofChange topIsoglossesSpec)

/-- ITS FALSE NEIGHBOUR: 'it returns false'. Refute it at one input. -/
def topIsoglossesWrong : ChangeSpec := { name := "topIsoglosses", fn := fun _ => fun
  | [d1, d2, d3, d4, d5] => { results := [.lit (.bool false)], args := [d1, d2, d3, d4, d5] }
  | _ => none }
def TopIsoglossesWrongFalsely : Prop := topIsoglossesRow.holds Tryz.pinned (OpenSpec.ofChange topIsoglossesWrong)

/-- 'ablautlaw38.WaveLines': WHATEVER THE INPUT: true; the input reads as it did. -/
def waveLinesSpec : ChangeSpec := { name := "waveLines", fn := fun _ => fun
  | [d] => { results := [.lit (.bool true)], args := [d] }
  | _ => none }
def waveLinesRow : OpenClaim := { program := "ytaglfmlgbcmakaagreatdoor", sum := "3e243185207af86c758be73401f0cc1ec6b6b18089adb06ac27494e6d9e00322", func := "ablaut/ablautlaw38.WaveLines", spec := "waveLines", inPlace := ["internal/bytealg.IndexByteString", "internal/bytealg.IndexString"], unfollowed := true, recurses := true, named := ["unicode/utf8.first", "unicode/utf8.acceptRanges", "math/bits.deBruijn64tab", "internal/bytealg.MaxLen"], loops := true, apart := false, laid := [("math/bits.deBruijn64tab", laid_math_bits_deBruijn64tab), ("unicode/utf8.acceptRanges", laid_unicode_utf8_acceptRanges), ("unicode/utf8.first", laid_unicode_utf8_first)] }
def WaveLinesSaid : Prop := waveLinesRow.holds Tryz.pinned (OpenSpec.ofChange waveLinesSpec)

/-- ITS FALSE NEIGHBOUR: 'it returns false'. Refute it at one input. -/
def waveLinesWrong : ChangeSpec := { name := "waveLines", fn := fun _ => fun
  | [d] => { results := [.lit (.bool false)], args := [d] }
  | _ => none }
def WaveLinesWrongFalsely : Prop := waveLinesRow.holds Tryz.pinned (OpenSpec.ofChange waveLinesWrong)

/-- 'ablautlaw38.WaveCrosses': WHATEVER THE INPUT: true; the input reads as it did. -/
def waveCrossesSpec : ChangeSpec := { name := "waveCrosses", fn := fun _ => fun
  | [d] => { results := [.lit (.bool true)], args := [d] }
  | _ => none }
def waveCrossesRow : OpenClaim := { program := "ytaglfmlgbcmakaagreatdoor", sum := "3e243185207af86c758be73401f0cc1ec6b6b18089adb06ac27494e6d9e00322", func := "ablaut/ablautlaw38.WaveCrosses", spec := "waveCrosses", inPlace := ["internal/bytealg.IndexByteString", "internal/bytealg.IndexString"], unfollowed := true, recurses := true, named := ["unicode/utf8.first", "unicode/utf8.acceptRanges", "math/bits.deBruijn64tab", "internal/bytealg.MaxLen"], loops := true, apart := false, laid := [("math/bits.deBruijn64tab", laid_math_bits_deBruijn64tab), ("unicode/utf8.acceptRanges", laid_unicode_utf8_acceptRanges), ("unicode/utf8.first", laid_unicode_utf8_first)] }
def WaveCrossesSaid : Prop := waveCrossesRow.holds Tryz.pinned (OpenSpec.ofChange waveCrossesSpec)

/-- ITS FALSE NEIGHBOUR: 'it returns false'. Refute it at one input. -/
def waveCrossesWrong : ChangeSpec := { name := "waveCrosses", fn := fun _ => fun
  | [d] => { results := [.lit (.bool false)], args := [d] }
  | _ => none }
def WaveCrossesWrongFalsely : Prop := waveCrossesRow.holds Tryz.pinned (OpenSpec.ofChange waveCrossesWrong)

/-- 'ablautlaw38.WaveGrows': WHATEVER THE INPUT: true; the input reads as it did. -/
def waveGrowsSpec : ChangeSpec := { name := "waveGrows", fn := fun _ => fun
  | [d1, d2] => { results := [.lit (.bool true)], args := [d1, d2] }
  | _ => none }
def waveGrowsRow : OpenClaim := { program := "ytaglfmlgbcmakaagreatdoor", sum := "3e243185207af86c758be73401f0cc1ec6b6b18089adb06ac27494e6d9e00322", func := "ablaut/ablautlaw38.WaveGrows", spec := "waveGrows", inPlace := ["internal/bytealg.IndexByteString", "internal/bytealg.IndexString"], unfollowed := true, recurses := true, named := ["unicode/utf8.first", "unicode/utf8.acceptRanges", "math/bits.deBruijn64tab", "internal/bytealg.MaxLen"], loops := true, apart := false, laid := [("math/bits.deBruijn64tab", laid_math_bits_deBruijn64tab), ("unicode/utf8.acceptRanges", laid_unicode_utf8_acceptRanges), ("unicode/utf8.first", laid_unicode_utf8_first)] }
def WaveGrowsSaid : Prop := waveGrowsRow.holds Tryz.pinned (OpenSpec.ofChange waveGrowsSpec)

/-- ITS FALSE NEIGHBOUR: 'it returns false'. Refute it at one input. -/
def waveGrowsWrong : ChangeSpec := { name := "waveGrows", fn := fun _ => fun
  | [d1, d2] => { results := [.lit (.bool false)], args := [d1, d2] }
  | _ => none }
def WaveGrowsWrongFalsely : Prop := waveGrowsRow.holds Tryz.pinned (OpenSpec.ofChange waveGrowsWrong)

/-- 'ablautlaw38.WaveOrders': WHATEVER THE INPUT: true; the input reads as it did. -/
def waveOrdersSpec : ChangeSpec := { name := "waveOrders", fn := fun _ => fun
  | [d] => { results := [.lit (.bool true)], args := [d] }
  | _ => none }
def waveOrdersRow : OpenClaim := { program := "ytaglfmlgbcmakaagreatdoor", sum := "3e243185207af86c758be73401f0cc1ec6b6b18089adb06ac27494e6d9e00322", func := "ablaut/ablautlaw38.WaveOrders", spec := "waveOrders", inPlace := ["internal/bytealg.IndexByteString", "internal/bytealg.IndexString"], unfollowed := true, recurses := true, named := ["unicode/utf8.first", "unicode/utf8.acceptRanges", "math/bits.deBruijn64tab", "internal/bytealg.MaxLen"], loops := true, apart := false, laid := [("math/bits.deBruijn64tab", laid_math_bits_deBruijn64tab), ("unicode/utf8.acceptRanges", laid_unicode_utf8_acceptRanges), ("unicode/utf8.first", laid_unicode_utf8_first)] }
def WaveOrdersSaid : Prop := waveOrdersRow.holds Tryz.pinned (OpenSpec.ofChange waveOrdersSpec)

/-- ITS FALSE NEIGHBOUR: 'it returns false'. Refute it at one input. -/
def waveOrdersWrong : ChangeSpec := { name := "waveOrders", fn := fun _ => fun
  | [d] => { results := [.lit (.bool false)], args := [d] }
  | _ => none }
def WaveOrdersWrongFalsely : Prop := waveOrdersRow.holds Tryz.pinned (OpenSpec.ofChange waveOrdersWrong)

/-- 'ablautlaw38.WaveStarts': WHATEVER THE INPUT: true; the input reads as it did. -/
def waveStartsSpec : ChangeSpec := { name := "waveStarts", fn := fun _ => fun
  | [d] => { results := [.lit (.bool true)], args := [d] }
  | _ => none }
def waveStartsRow : OpenClaim := { program := "ytaglfmlgbcmakaagreatdoor", sum := "3e243185207af86c758be73401f0cc1ec6b6b18089adb06ac27494e6d9e00322", func := "ablaut/ablautlaw38.WaveStarts", spec := "waveStarts", inPlace := ["internal/bytealg.IndexByteString", "internal/bytealg.IndexString"], unfollowed := true, recurses := true, named := ["unicode/utf8.first", "unicode/utf8.acceptRanges", "math/bits.deBruijn64tab", "internal/bytealg.MaxLen"], loops := true, apart := false, laid := [("math/bits.deBruijn64tab", laid_math_bits_deBruijn64tab), ("unicode/utf8.acceptRanges", laid_unicode_utf8_acceptRanges), ("unicode/utf8.first", laid_unicode_utf8_first)] }
def WaveStartsSaid : Prop := waveStartsRow.holds Tryz.pinned (OpenSpec.ofChange waveStartsSpec)

/-- ITS FALSE NEIGHBOUR: 'it returns false'. Refute it at one input. -/
def waveStartsWrong : ChangeSpec := { name := "waveStarts", fn := fun _ => fun
  | [d] => { results := [.lit (.bool false)], args := [d] }
  | _ => none }
def WaveStartsWrongFalsely : Prop := waveStartsRow.holds Tryz.pinned (OpenSpec.ofChange waveStartsWrong)

/-- 'ablautlaw38.WaveArrives': WHATEVER THE INPUT: true; the input reads as it did. -/
def waveArrivesSpec : ChangeSpec := { name := "waveArrives", fn := fun _ => fun
  | [d] => { results := [.lit (.bool true)], args := [d] }
  | _ => none }
def waveArrivesRow : OpenClaim := { program := "ytaglfmlgbcmakaagreatdoor", sum := "3e243185207af86c758be73401f0cc1ec6b6b18089adb06ac27494e6d9e00322", func := "ablaut/ablautlaw38.WaveArrives", spec := "waveArrives", inPlace := ["internal/bytealg.IndexByteString", "internal/bytealg.IndexString"], unfollowed := true, recurses := true, named := ["unicode/utf8.first", "unicode/utf8.acceptRanges", "math/bits.deBruijn64tab", "internal/bytealg.MaxLen"], loops := true, apart := false, laid := [("math/bits.deBruijn64tab", laid_math_bits_deBruijn64tab), ("unicode/utf8.acceptRanges", laid_unicode_utf8_acceptRanges), ("unicode/utf8.first", laid_unicode_utf8_first)] }
def WaveArrivesSaid : Prop := waveArrivesRow.holds Tryz.pinned (OpenSpec.ofChange waveArrivesSpec)

/-- ITS FALSE NEIGHBOUR: 'it returns false'. Refute it at one input. -/
def waveArrivesWrong : ChangeSpec := { name := "waveArrives", fn := fun _ => fun
  | [d] => { results := [.lit (.bool false)], args := [d] }
  | _ => none }
def WaveArrivesWrongFalsely : Prop := waveArrivesRow.holds Tryz.pinned (OpenSpec.ofChange waveArrivesWrong)

/-- 'ablautlaw38.WaveNearest': WHATEVER THE INPUT: true; the input reads as it did. -/
def waveNearestSpec : ChangeSpec := { name := "waveNearest", fn := fun _ => fun
  | [d] => { results := [.lit (.bool true)], args := [d] }
  | _ => none }
def waveNearestRow : OpenClaim := { program := "ytaglfmlgbcmakaagreatdoor", sum := "3e243185207af86c758be73401f0cc1ec6b6b18089adb06ac27494e6d9e00322", func := "ablaut/ablautlaw38.WaveNearest", spec := "waveNearest", inPlace := ["internal/bytealg.IndexByteString", "internal/bytealg.IndexString"], unfollowed := true, recurses := true, named := ["unicode/utf8.first", "unicode/utf8.acceptRanges", "math/bits.deBruijn64tab", "internal/bytealg.MaxLen"], loops := true, apart := false, laid := [("math/bits.deBruijn64tab", laid_math_bits_deBruijn64tab), ("unicode/utf8.acceptRanges", laid_unicode_utf8_acceptRanges), ("unicode/utf8.first", laid_unicode_utf8_first)] }
def WaveNearestSaid : Prop := waveNearestRow.holds Tryz.pinned (OpenSpec.ofChange waveNearestSpec)

/-- ITS FALSE NEIGHBOUR: 'it returns false'. Refute it at one input. -/
def waveNearestWrong : ChangeSpec := { name := "waveNearest", fn := fun _ => fun
  | [d] => { results := [.lit (.bool false)], args := [d] }
  | _ => none }
def WaveNearestWrongFalsely : Prop := waveNearestRow.holds Tryz.pinned (OpenSpec.ofChange waveNearestWrong)

/-- 'ablautlaw38.WaveForms': WHATEVER THE INPUT: true; the input reads as it did. -/
def waveFormsSpec : ChangeSpec := { name := "waveForms", fn := fun _ => fun
  | [d] => { results := [.lit (.bool true)], args := [d] }
  | _ => none }
def waveFormsRow : OpenClaim := { program := "ytaglfmlgbcmakaagreatdoor", sum := "3e243185207af86c758be73401f0cc1ec6b6b18089adb06ac27494e6d9e00322", func := "ablaut/ablautlaw38.WaveForms", spec := "waveForms", inPlace := ["internal/bytealg.IndexByteString", "internal/bytealg.IndexString"], unfollowed := true, recurses := true, named := ["unicode/utf8.first", "unicode/utf8.acceptRanges", "math/bits.deBruijn64tab", "internal/bytealg.MaxLen"], loops := true, apart := false, laid := [("math/bits.deBruijn64tab", laid_math_bits_deBruijn64tab), ("unicode/utf8.acceptRanges", laid_unicode_utf8_acceptRanges), ("unicode/utf8.first", laid_unicode_utf8_first)] }
def WaveFormsSaid : Prop := waveFormsRow.holds Tryz.pinned (OpenSpec.ofChange waveFormsSpec)

/-- ITS FALSE NEIGHBOUR: 'it returns false'. Refute it at one input. -/
def waveFormsWrong : ChangeSpec := { name := "waveForms", fn := fun _ => fun
  | [d] => { results := [.lit (.bool false)], args := [d] }
  | _ => none }
def WaveFormsWrongFalsely : Prop := waveFormsRow.holds Tryz.pinned (OpenSpec.ofChange waveFormsWrong)

/-- 'ablautlaw38.WaveDerives': WHATEVER THE INPUT: true; the input reads as it did. -/
def waveDerivesSpec : ChangeSpec := { name := "waveDerives", fn := fun _ => fun
  | [d] => { results := [.lit (.bool true)], args := [d] }
  | _ => none }
def waveDerivesRow : OpenClaim := { program := "ytaglfmlgbcmakaagreatdoor", sum := "3e243185207af86c758be73401f0cc1ec6b6b18089adb06ac27494e6d9e00322", func := "ablaut/ablautlaw38.WaveDerives", spec := "waveDerives", inPlace := ["internal/bytealg.IndexByteString", "internal/bytealg.IndexString"], unfollowed := true, recurses := true, named := ["unicode/utf8.first", "unicode/utf8.acceptRanges", "math/bits.deBruijn64tab", "internal/bytealg.MaxLen"], loops := true, apart := false, laid := [("math/bits.deBruijn64tab", laid_math_bits_deBruijn64tab), ("unicode/utf8.acceptRanges", laid_unicode_utf8_acceptRanges), ("unicode/utf8.first", laid_unicode_utf8_first)] }
def WaveDerivesSaid : Prop := waveDerivesRow.holds Tryz.pinned (OpenSpec.ofChange waveDerivesSpec)

/-- ITS FALSE NEIGHBOUR: 'it returns false'. Refute it at one input. -/
def waveDerivesWrong : ChangeSpec := { name := "waveDerives", fn := fun _ => fun
  | [d] => { results := [.lit (.bool false)], args := [d] }
  | _ => none }
def WaveDerivesWrongFalsely : Prop := waveDerivesRow.holds Tryz.pinned (OpenSpec.ofChange waveDerivesWrong)

/-- 'ablautlaw38.WaveKnown': WHATEVER THE INPUT: true; the input reads as it did. -/
def waveKnownSpec : ChangeSpec := { name := "waveKnown", fn := fun _ => fun
  | [] => { results := [.lit (.bool true)], args := [] }
  | _ => none }
def waveKnownRow : OpenClaim := { program := "ytaglfmlgbcmakaagreatdoor", sum := "3e243185207af86c758be73401f0cc1ec6b6b18089adb06ac27494e6d9e00322", func := "ablaut/ablautlaw38.WaveKnown", spec := "waveKnown", inPlace := ["internal/bytealg.IndexByteString", "internal/bytealg.IndexString"], unfollowed := true, recurses := true, named := ["unicode/utf8.first", "unicode/utf8.acceptRanges", "math/bits.deBruijn64tab", "internal/bytealg.MaxLen"], apart := false, laid := [("math/bits.deBruijn64tab", laid_math_bits_deBruijn64tab), ("unicode/utf8.acceptRanges", laid_unicode_utf8_acceptRanges), ("unicode/utf8.first", laid_unicode_utf8_first)] }
def WaveKnownSaid : Prop := waveKnownRow.holds Tryz.pinned (OpenSpec.ofChange waveKnownSpec)

/-- ITS FALSE NEIGHBOUR: 'it returns false'. Refute it at one input. -/
def waveKnownWrong : ChangeSpec := { name := "waveKnown", fn := fun _ => fun
  | [] => { results := [.lit (.bool false)], args := [] }
  | _ => none }
def WaveKnownWrongFalsely : Prop := waveKnownRow.holds Tryz.pinned (OpenSpec.ofChange waveKnownWrong)

/- THE SECOND FORM. 'bulk': how many values and letters a reading holds, each counted each time it is reached (what is shared counts as often as it is met; a slice's spare places count too). A statement '..UptoSaid' is the law's where the arguments, and the package variables that the reading takes, are together of bulk at most 1048576: NARROWER than '..Said'. Prove '..Said' where nothing that the law and all that it calls make is longer than what came in: it says more and counts as full. Else prove '..UptoSaid'. A law counts once. -/
mutual
def uptoBulk {H : Type} : DataW H → Nat
  | .lit (.string bytes) => bytes.length + 1
  | .lit _ => 1
  | .nil => 1
  | .ptr d => uptoBulk d + 1
  | .slice elems spare => uptoBulkAll elems + uptoBulkAll spare + 1
  | .agg parts => uptoBulkAll parts + 1
  | .iface _ d => uptoBulk d + 1
  | .map entries => uptoBulkEntries entries + 1
  | .held _ => 1
def uptoBulkAll {H : Type} : List (DataW H) → Nat
  | [] => 0
  | d :: r => uptoBulk d + uptoBulkAll r
def uptoBulkEntries {H : Type} : List (Lit × DataW H) → Nat
  | [] => 0
  | x :: r => uptoBulkEntry x + uptoBulkEntries r
def uptoBulkEntry {H : Type} : Lit × DataW H → Nat
  | (.string bytes, d) => bytes.length + uptoBulk d + 1
  | (_, d) => uptoBulk d + 1
 end
def uptoSmall : (H : Type) → List (DataW H) → Bool := fun _ ds => decide (uptoBulkAll ds ≤ 1048576)
def OpenSpec.upto (s : _root_.Go.ChangeSpec) : _root_.Go.OpenSpec := { _root_.Go.OpenSpec.ofChange s with cond := some uptoSmall }

/-- 'ablauttop.TopWaves', WHERE WHAT IT READS IS OF BULK AT MOST 1048576: true; the input reads as it did. -/
def topWavesUptoRow : OpenClaim := { program := "ytaglfmlgbcmakaagreatdoor", sum := "3e243185207af86c758be73401f0cc1ec6b6b18089adb06ac27494e6d9e00322", func := "ablaut/ablauttop.TopWaves", spec := "topWaves", inPlace := ["internal/bytealg.IndexByteString", "internal/bytealg.IndexString"], unfollowed := true, recurses := true, named := ["unicode/utf8.first", "unicode/utf8.acceptRanges", "math/bits.deBruijn64tab", "internal/bytealg.MaxLen"], loops := true, apart := false, laid := [("math/bits.deBruijn64tab", laid_math_bits_deBruijn64tab), ("unicode/utf8.acceptRanges", laid_unicode_utf8_acceptRanges), ("unicode/utf8.first", laid_unicode_utf8_first)], narrowed := true }
def TopWavesUptoSaid : Prop := topWavesUptoRow.holds Tryz.pinned (OpenSpec.upto topWavesSpec)

/-- 'ablauttop.TopIsoglosses', WHERE WHAT IT READS IS OF BULK AT MOST 1048576: true; the input reads as it did. -/
def topIsoglossesUptoRow : OpenClaim := { program := "ytaglfmlgbcmakaagreatdoor", sum := "3e243185207af86c758be73401f0cc1ec6b6b18089adb06ac27494e6d9e00322", func := "ablaut/ablauttop.TopIsoglosses", spec := "topIsoglosses", inPlace := ["internal/bytealg.IndexByteString", "internal/bytealg.IndexString"], unfollowed := true, recurses := true, named := ["unicode/utf8.first", "unicode/utf8.acceptRanges", "math/bits.deBruijn64tab", "internal/bytealg.MaxLen"], loops := true, apart := false, laid := [("math/bits.deBruijn64tab", laid_math_bits_deBruijn64tab), ("unicode/utf8.acceptRanges", laid_unicode_utf8_acceptRanges), ("unicode/utf8.first", laid_unicode_utf8_first)], narrowed := true }
def TopIsoglossesUptoSaid : Prop := topIsoglossesUptoRow.holds Tryz.pinned (OpenSpec.upto topIsoglossesSpec)

/-- 'ablautlaw38.WaveLines', WHERE WHAT IT READS IS OF BULK AT MOST 1048576: true; the input reads as it did. -/
def waveLinesUptoRow : OpenClaim := { program := "ytaglfmlgbcmakaagreatdoor", sum := "3e243185207af86c758be73401f0cc1ec6b6b18089adb06ac27494e6d9e00322", func := "ablaut/ablautlaw38.WaveLines", spec := "waveLines", inPlace := ["internal/bytealg.IndexByteString", "internal/bytealg.IndexString"], unfollowed := true, recurses := true, named := ["unicode/utf8.first", "unicode/utf8.acceptRanges", "math/bits.deBruijn64tab", "internal/bytealg.MaxLen"], loops := true, apart := false, laid := [("math/bits.deBruijn64tab", laid_math_bits_deBruijn64tab), ("unicode/utf8.acceptRanges", laid_unicode_utf8_acceptRanges), ("unicode/utf8.first", laid_unicode_utf8_first)], narrowed := true }
def WaveLinesUptoSaid : Prop := waveLinesUptoRow.holds Tryz.pinned (OpenSpec.upto waveLinesSpec)

/-- 'ablautlaw38.WaveCrosses', WHERE WHAT IT READS IS OF BULK AT MOST 1048576: true; the input reads as it did. -/
def waveCrossesUptoRow : OpenClaim := { program := "ytaglfmlgbcmakaagreatdoor", sum := "3e243185207af86c758be73401f0cc1ec6b6b18089adb06ac27494e6d9e00322", func := "ablaut/ablautlaw38.WaveCrosses", spec := "waveCrosses", inPlace := ["internal/bytealg.IndexByteString", "internal/bytealg.IndexString"], unfollowed := true, recurses := true, named := ["unicode/utf8.first", "unicode/utf8.acceptRanges", "math/bits.deBruijn64tab", "internal/bytealg.MaxLen"], loops := true, apart := false, laid := [("math/bits.deBruijn64tab", laid_math_bits_deBruijn64tab), ("unicode/utf8.acceptRanges", laid_unicode_utf8_acceptRanges), ("unicode/utf8.first", laid_unicode_utf8_first)], narrowed := true }
def WaveCrossesUptoSaid : Prop := waveCrossesUptoRow.holds Tryz.pinned (OpenSpec.upto waveCrossesSpec)

/-- 'ablautlaw38.WaveGrows', WHERE WHAT IT READS IS OF BULK AT MOST 1048576: true; the input reads as it did. -/
def waveGrowsUptoRow : OpenClaim := { program := "ytaglfmlgbcmakaagreatdoor", sum := "3e243185207af86c758be73401f0cc1ec6b6b18089adb06ac27494e6d9e00322", func := "ablaut/ablautlaw38.WaveGrows", spec := "waveGrows", inPlace := ["internal/bytealg.IndexByteString", "internal/bytealg.IndexString"], unfollowed := true, recurses := true, named := ["unicode/utf8.first", "unicode/utf8.acceptRanges", "math/bits.deBruijn64tab", "internal/bytealg.MaxLen"], loops := true, apart := false, laid := [("math/bits.deBruijn64tab", laid_math_bits_deBruijn64tab), ("unicode/utf8.acceptRanges", laid_unicode_utf8_acceptRanges), ("unicode/utf8.first", laid_unicode_utf8_first)], narrowed := true }
def WaveGrowsUptoSaid : Prop := waveGrowsUptoRow.holds Tryz.pinned (OpenSpec.upto waveGrowsSpec)

/-- 'ablautlaw38.WaveOrders', WHERE WHAT IT READS IS OF BULK AT MOST 1048576: true; the input reads as it did. -/
def waveOrdersUptoRow : OpenClaim := { program := "ytaglfmlgbcmakaagreatdoor", sum := "3e243185207af86c758be73401f0cc1ec6b6b18089adb06ac27494e6d9e00322", func := "ablaut/ablautlaw38.WaveOrders", spec := "waveOrders", inPlace := ["internal/bytealg.IndexByteString", "internal/bytealg.IndexString"], unfollowed := true, recurses := true, named := ["unicode/utf8.first", "unicode/utf8.acceptRanges", "math/bits.deBruijn64tab", "internal/bytealg.MaxLen"], loops := true, apart := false, laid := [("math/bits.deBruijn64tab", laid_math_bits_deBruijn64tab), ("unicode/utf8.acceptRanges", laid_unicode_utf8_acceptRanges), ("unicode/utf8.first", laid_unicode_utf8_first)], narrowed := true }
def WaveOrdersUptoSaid : Prop := waveOrdersUptoRow.holds Tryz.pinned (OpenSpec.upto waveOrdersSpec)

/-- 'ablautlaw38.WaveStarts', WHERE WHAT IT READS IS OF BULK AT MOST 1048576: true; the input reads as it did. -/
def waveStartsUptoRow : OpenClaim := { program := "ytaglfmlgbcmakaagreatdoor", sum := "3e243185207af86c758be73401f0cc1ec6b6b18089adb06ac27494e6d9e00322", func := "ablaut/ablautlaw38.WaveStarts", spec := "waveStarts", inPlace := ["internal/bytealg.IndexByteString", "internal/bytealg.IndexString"], unfollowed := true, recurses := true, named := ["unicode/utf8.first", "unicode/utf8.acceptRanges", "math/bits.deBruijn64tab", "internal/bytealg.MaxLen"], loops := true, apart := false, laid := [("math/bits.deBruijn64tab", laid_math_bits_deBruijn64tab), ("unicode/utf8.acceptRanges", laid_unicode_utf8_acceptRanges), ("unicode/utf8.first", laid_unicode_utf8_first)], narrowed := true }
def WaveStartsUptoSaid : Prop := waveStartsUptoRow.holds Tryz.pinned (OpenSpec.upto waveStartsSpec)

/-- 'ablautlaw38.WaveArrives', WHERE WHAT IT READS IS OF BULK AT MOST 1048576: true; the input reads as it did. -/
def waveArrivesUptoRow : OpenClaim := { program := "ytaglfmlgbcmakaagreatdoor", sum := "3e243185207af86c758be73401f0cc1ec6b6b18089adb06ac27494e6d9e00322", func := "ablaut/ablautlaw38.WaveArrives", spec := "waveArrives", inPlace := ["internal/bytealg.IndexByteString", "internal/bytealg.IndexString"], unfollowed := true, recurses := true, named := ["unicode/utf8.first", "unicode/utf8.acceptRanges", "math/bits.deBruijn64tab", "internal/bytealg.MaxLen"], loops := true, apart := false, laid := [("math/bits.deBruijn64tab", laid_math_bits_deBruijn64tab), ("unicode/utf8.acceptRanges", laid_unicode_utf8_acceptRanges), ("unicode/utf8.first", laid_unicode_utf8_first)], narrowed := true }
def WaveArrivesUptoSaid : Prop := waveArrivesUptoRow.holds Tryz.pinned (OpenSpec.upto waveArrivesSpec)

/-- 'ablautlaw38.WaveNearest', WHERE WHAT IT READS IS OF BULK AT MOST 1048576: true; the input reads as it did. -/
def waveNearestUptoRow : OpenClaim := { program := "ytaglfmlgbcmakaagreatdoor", sum := "3e243185207af86c758be73401f0cc1ec6b6b18089adb06ac27494e6d9e00322", func := "ablaut/ablautlaw38.WaveNearest", spec := "waveNearest", inPlace := ["internal/bytealg.IndexByteString", "internal/bytealg.IndexString"], unfollowed := true, recurses := true, named := ["unicode/utf8.first", "unicode/utf8.acceptRanges", "math/bits.deBruijn64tab", "internal/bytealg.MaxLen"], loops := true, apart := false, laid := [("math/bits.deBruijn64tab", laid_math_bits_deBruijn64tab), ("unicode/utf8.acceptRanges", laid_unicode_utf8_acceptRanges), ("unicode/utf8.first", laid_unicode_utf8_first)], narrowed := true }
def WaveNearestUptoSaid : Prop := waveNearestUptoRow.holds Tryz.pinned (OpenSpec.upto waveNearestSpec)

/-- 'ablautlaw38.WaveForms', WHERE WHAT IT READS IS OF BULK AT MOST 1048576: true; the input reads as it did. -/
def waveFormsUptoRow : OpenClaim := { program := "ytaglfmlgbcmakaagreatdoor", sum := "3e243185207af86c758be73401f0cc1ec6b6b18089adb06ac27494e6d9e00322", func := "ablaut/ablautlaw38.WaveForms", spec := "waveForms", inPlace := ["internal/bytealg.IndexByteString", "internal/bytealg.IndexString"], unfollowed := true, recurses := true, named := ["unicode/utf8.first", "unicode/utf8.acceptRanges", "math/bits.deBruijn64tab", "internal/bytealg.MaxLen"], loops := true, apart := false, laid := [("math/bits.deBruijn64tab", laid_math_bits_deBruijn64tab), ("unicode/utf8.acceptRanges", laid_unicode_utf8_acceptRanges), ("unicode/utf8.first", laid_unicode_utf8_first)], narrowed := true }
def WaveFormsUptoSaid : Prop := waveFormsUptoRow.holds Tryz.pinned (OpenSpec.upto waveFormsSpec)

/-- 'ablautlaw38.WaveDerives', WHERE WHAT IT READS IS OF BULK AT MOST 1048576: true; the input reads as it did. -/
def waveDerivesUptoRow : OpenClaim := { program := "ytaglfmlgbcmakaagreatdoor", sum := "3e243185207af86c758be73401f0cc1ec6b6b18089adb06ac27494e6d9e00322", func := "ablaut/ablautlaw38.WaveDerives", spec := "waveDerives", inPlace := ["internal/bytealg.IndexByteString", "internal/bytealg.IndexString"], unfollowed := true, recurses := true, named := ["unicode/utf8.first", "unicode/utf8.acceptRanges", "math/bits.deBruijn64tab", "internal/bytealg.MaxLen"], loops := true, apart := false, laid := [("math/bits.deBruijn64tab", laid_math_bits_deBruijn64tab), ("unicode/utf8.acceptRanges", laid_unicode_utf8_acceptRanges), ("unicode/utf8.first", laid_unicode_utf8_first)], narrowed := true }
def WaveDerivesUptoSaid : Prop := waveDerivesUptoRow.holds Tryz.pinned (OpenSpec.upto waveDerivesSpec)

/-- 'ablautlaw38.WaveKnown', WHERE WHAT IT READS IS OF BULK AT MOST 1048576: true; the input reads as it did. -/
def waveKnownUptoRow : OpenClaim := { program := "ytaglfmlgbcmakaagreatdoor", sum := "3e243185207af86c758be73401f0cc1ec6b6b18089adb06ac27494e6d9e00322", func := "ablaut/ablautlaw38.WaveKnown", spec := "waveKnown", inPlace := ["internal/bytealg.IndexByteString", "internal/bytealg.IndexString"], unfollowed := true, recurses := true, named := ["unicode/utf8.first", "unicode/utf8.acceptRanges", "math/bits.deBruijn64tab", "internal/bytealg.MaxLen"], apart := false, laid := [("math/bits.deBruijn64tab", laid_math_bits_deBruijn64tab), ("unicode/utf8.acceptRanges", laid_unicode_utf8_acceptRanges), ("unicode/utf8.first", laid_unicode_utf8_first)], narrowed := true }
def WaveKnownUptoSaid : Prop := waveKnownUptoRow.holds Tryz.pinned (OpenSpec.upto waveKnownSpec)

end Rows
end Go.Proofs.YtaglfmlgbcmakaaGreatDoor

/-
  A parameter that is a sound is opened.
-/
import Derived.Test.YtcpcojgmmpnkoaaGreatDoorG53
set_option linter.unusedVariables false
set_option linter.unusedSimpArgs false
set_option maxRecDepth 100000
set_option maxHeartbeats 4000000
namespace Go.Proofs.YtcpcojgmmpnkoaaGreatDoor
open Go.RowKit Go.ChangeShapes Go.WideShapes Go.ChangeAt
section
variable {H : Type} {enc : TypeId × Value → H} {w : World} {base : Nat} {spare : Nat → Bool} {held : Bool} {d : DataW H} {p : List MemPlace}
theorem open_sndU {cs : Array Value} (h : DataW.Trod enc Tryz.prog w base spare held 24 (.agg cs) d p) : ∃ s : Snd, cs = #[.int .u32 s.1, .int .u32 s.2] ∧ SndU s := by
 obtain ⟨_, hf⟩ := h
 obtain ⟨s, e, hs⟩ := sound_rowU hf
 refine ⟨s, ?_, hs⟩
 apply Array.ext'
 simpa [Value.cells, sndCs] using e
end
end Go.Proofs.YtcpcojgmmpnkoaaGreatDoor

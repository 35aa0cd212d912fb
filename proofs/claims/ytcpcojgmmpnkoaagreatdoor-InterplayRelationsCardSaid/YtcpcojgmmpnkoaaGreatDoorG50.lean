/-
  A parameter that is a law, opened; the ranges of its numbers.
-/
import Derived.Test.YtcpcojgmmpnkoaaGreatDoorG29
set_option linter.unusedVariables false
set_option linter.unusedSimpArgs false
set_option maxRecDepth 100000
set_option maxHeartbeats 4000000
namespace Go.Proofs.YtcpcojgmmpnkoaaGreatDoor
open Go.RowKit Go.ChangeShapes Go.WideShapes Go.ChangeAt
section
variable {H : Type} {enc : TypeId × Value → H} {w : World} {base : Nat} {spare : Nat → Bool} {held : Bool} {d : DataW H} {p : List MemPlace}
theorem open_lawU {cs : Array Value} (h : DataW.Trod enc Tryz.prog w base spare held 34 (.agg cs) d p) : ∃ l : LawR, cs = lawCs l.l l.a ∧ LawAt w l.l l.a ∧ LawU l.l := by
 obtain ⟨_, hf⟩ := h
 obtain ⟨l, e, hl⟩ := law_rowU hf
 refine ⟨l, ?_, hl⟩
 apply Array.ext'
 simpa [Value.cells, LawR.cells] using e
end
end Go.Proofs.YtcpcojgmmpnkoaaGreatDoor

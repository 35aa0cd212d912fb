/-
  ablautref06.Size and ablautlaw10.Reps return; nothing old is written.
-/
import Derived.Test.YtlgliddhideflaaGreatDoorG13
set_option linter.all false
set_option maxRecDepth 100000
set_option maxHeartbeats 4000000
namespace Go.Proofs.YtlgliddhideflaaGreatDoor
open Go.RowKit Go.Shelf
def RetTrue (w : World) (e : Ending) (w' : World) : Prop := e = .returned (.bool true) ∧ Below w.heap.size w w'
end Go.Proofs.YtlgliddhideflaaGreatDoor

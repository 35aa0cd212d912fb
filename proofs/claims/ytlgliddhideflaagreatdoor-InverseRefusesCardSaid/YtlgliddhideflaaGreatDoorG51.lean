/-
  What the rows of a seat ask of its program as a whole.
-/
import Derived.Test.YtlgliddhideflaaGreatDoorG20
import Derived.Test.YtlgliddhideflaaGreatDoorCards
set_option linter.all false
set_option maxRecDepth 100000
set_option maxHeartbeats 4000000
namespace Go.Proofs.YtlgliddhideflaaGreatDoor
open Go.RowKit Go.ChangeShapes Go.WideShapes Go.ChangeAt
theorem Ac3:laidOutB Tryz.pinned.checked.prog=true:=by kernel_rfl
theorem Ac4:mapsRowed Tryz.pinned.checked.prog=true:=by kernel_rfl
theorem Abj:(Program.stopsHeard Tryz.pinned.checked.prog)=true:=by kernel_rfl
theorem Abk:(Program.mayEnter Tryz.pinned.checked.prog)=true:=by kernel_rfl
end Go.Proofs.YtlgliddhideflaaGreatDoor

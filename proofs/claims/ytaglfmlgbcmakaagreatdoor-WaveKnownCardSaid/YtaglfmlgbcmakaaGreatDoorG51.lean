/-
  What the rows of a seat ask of its program as a whole.
-/
import Derived.Test.YtaglfmlgbcmakaaGreatDoorG20
import Derived.Test.YtaglfmlgbcmakaaGreatDoorCards
set_option linter.all false
set_option maxRecDepth 100000
set_option maxHeartbeats 4000000
namespace Go.Proofs.YtaglfmlgbcmakaaGreatDoor
open Go.RowKit Go.ChangeShapes Go.WideShapes Go.ChangeAt
theorem seat_k2 : laidOutB Tryz.pinned.checked.prog = true := by kernel_rfl
theorem seat_k3 : mapsRowed Tryz.pinned.checked.prog = true := by kernel_rfl
theorem seat_k24 : (Program.stopsHeard Tryz.pinned.checked.prog) = true := by kernel_rfl
theorem seat_k25 : (Program.mayEnter Tryz.pinned.checked.prog) = true := by kernel_rfl
end Go.Proofs.YtaglfmlgbcmakaaGreatDoor

/-
  ablautref29: labels, Same, Classes.
  ablautref29.Grades.
-/
import Derived.Test.YtcpcojgmmpnkoaaGreatDoorG70
set_option linter.all false
set_option maxRecDepth 100000
set_option maxHeartbeats 4000000
namespace Go.Proofs.YtcpcojgmmpnkoaaGreatDoor
open Go.RowKit Go.Shelf
open Go.RowKit Go.Shelf
end Go.Proofs.YtcpcojgmmpnkoaaGreatDoor

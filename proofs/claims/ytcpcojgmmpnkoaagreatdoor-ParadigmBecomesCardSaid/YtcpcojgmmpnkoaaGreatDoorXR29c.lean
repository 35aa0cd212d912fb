/-
  ablautref29.Build.
-/
import Derived.Test.YtcpcojgmmpnkoaaGreatDoorG65
import Derived.Test.YtcpcojgmmpnkoaaGreatDoorG68
import Derived.Test.YtcpcojgmmpnkoaaGreatDoorG69
set_option linter.all false
set_option maxRecDepth 100000
set_option maxHeartbeats 4000000
namespace Go.Proofs.YtcpcojgmmpnkoaaGreatDoor
open Go.RowKit Go.Shelf
end Go.Proofs.YtcpcojgmmpnkoaaGreatDoor

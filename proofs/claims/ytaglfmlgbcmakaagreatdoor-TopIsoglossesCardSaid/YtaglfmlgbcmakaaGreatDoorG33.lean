/-
  ablautref02.Equal, Same; ablautlaw10.numbers.
-/
import Derived.Test.YtaglfmlgbcmakaaGreatDoorG15
set_option linter.all false
set_option maxRecDepth 100000
set_option maxHeartbeats 4000000
namespace Go.Proofs.YtaglfmlgbcmakaaGreatDoor
open Go.RowKit Go.Shelf
end Go.Proofs.YtaglfmlgbcmakaaGreatDoor

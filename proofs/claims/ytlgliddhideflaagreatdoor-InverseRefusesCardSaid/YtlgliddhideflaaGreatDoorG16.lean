/-
  How often each law is used: what is counted, word by word.
  derive.Used.
-/
import Derived.Deep.OwnRows
import Derived.Test.YtlgliddhideflaaGreatDoorG14
import Derived.Test.YtlgliddhideflaaGreatDoorG33
set_option linter.all false
set_option maxRecDepth 100000
set_option maxHeartbeats 4000000
namespace Go.Proofs.YtlgliddhideflaaGreatDoor
open Go.RowKit Go.Shelf
end Go.Proofs.YtlgliddhideflaaGreatDoor
namespace Go.Proofs.YtlgliddhideflaaGreatDoor
open Go.RowKit Go.Shelf
attribute [local go_sem] Oper.semAt_some
end Go.Proofs.YtlgliddhideflaaGreatDoor

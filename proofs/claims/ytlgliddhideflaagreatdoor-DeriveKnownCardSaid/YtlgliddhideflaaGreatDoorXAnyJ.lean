/-
  A drawn region whose first operations lay memory in any order; the others wait for all of them.
-/
import Derived.Test.YtlgliddhideflaaGreatDoorXAnyI
set_option linter.all false
set_option maxRecDepth 100000
set_option maxHeartbeats 4000000
namespace Go.Proofs.YtlgliddhideflaaGreatDoor
open Go.RowKit Go.Shelf
section
variable {P : Program} {ops : Array Oper} {Q : Exit → Act → World → Prop} {md : Region.Mode}
def marks (m n : Nat) : Array Bool := ((List.range n).map fun i => decide (i < m)).toArray
end
end Go.Proofs.YtlgliddhideflaaGreatDoor

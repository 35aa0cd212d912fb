/-
  ablautref06.Size and ablautlaw10.Reps return; nothing old is written.
-/
import Derived.Test.YtlgliddhideflaaGreatDoorG13
set_option linter.all false
set_option maxRecDepth 100000
set_option maxHeartbeats 4000000
namespace Go.Proofs.YtlgliddhideflaaGreatDoor
open Go.RowKit Go.Shelf
def Ac0 (w:World)(e:Ending)(w':World):Prop:=e= .returned (.bool true)/\Below w.heap.size w w'
theorem T3 {w w':World}{b o:Nat}{cs:List Value}(h:w.rangeAt b o cs){B:Nat}(hb:Below B w w')(hB:b<B):w'.rangeAt b o cs:=fun j v hv=>(hb.cell (p:=⟨b,_,none⟩) hB).trans (h j v hv)
end Go.Proofs.YtlgliddhideflaaGreatDoor

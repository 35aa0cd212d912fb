/-
  A parameter that is a law, opened; the ranges of its numbers.
-/
import Derived.Test.YtlgliddhideflaaGreatDoorG29
set_option linter.all false
set_option maxRecDepth 100000
set_option maxHeartbeats 4000000
namespace Go.Proofs.YtlgliddhideflaaGreatDoor
open Go.RowKit Go.ChangeShapes Go.WideShapes Go.ChangeAt
section
variable {H:Type}{enc:TypeId×Value->H}{w:World}{base:Nat}{spare:Nat->Bool}{held:Bool}{d:DataW H}{p:List MemPlace}
theorem Yb {cs:Array Value}(h:DataW.Trod enc Tryz.prog w base spare held 34 (.agg cs) d p):∃l:Co,cs=Bv l.l l.a/\Cv w l.l l.a/\Lb l.l:=by
 obtain⟨_,hf⟩:=h;obtain⟨l,e,hl⟩:=Abh hf;refine⟨l, ?_,hl⟩;apply Array.ext';simpa[Value.cells,Co.cells]using e
end
end Go.Proofs.YtlgliddhideflaaGreatDoor

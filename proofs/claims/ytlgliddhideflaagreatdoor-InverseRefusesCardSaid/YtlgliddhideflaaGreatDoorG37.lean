/-
  Words of a slice of words, one by one.
-/
import Derived.Test.YtlgliddhideflaaGreatDoorG13
set_option linter.all false
set_option maxRecDepth 100000
set_option maxHeartbeats 4000000
namespace Go.Proofs.YtlgliddhideflaaGreatDoor
open Go.RowKit Go.Shelf
theorem B5.shape {w:World}{A:Option Addr}{n c:Nat}{xss:List (List Snd)}(h:B5 w A n c xss)(hn:0<n):∃b off,A=some ⟨b,off,none⟩/\b<w.heap.size:=by
 obtain⟨b,off,_,_,_,_,hA,hb,_⟩:=h.at_ hn;exact⟨b,off,hA,hb⟩
end Go.Proofs.YtlgliddhideflaaGreatDoor

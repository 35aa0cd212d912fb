/-
  Idle laws, in plain words: what is reckoned.
-/
import Derived.Test.YtlgliddhideflaaGreatDoorXPairs0
import Derived.Test.YtlgliddhideflaaGreatDoorG16
set_option linter.all false
set_option maxRecDepth 100000
set_option maxHeartbeats 4000000
namespace Go.Proofs.YtlgliddhideflaaGreatDoor
open Go.RowKit Go.Shelf
def without (ls : List LawD) (k : Nat) : List LawD := ls.take k ++ ls.drop (k + 1)
def mattersM (rest : List LawD) (p : List Snd × List Snd) : Bool := (formsM rest p.1).1 != 0 || !decide (((formsM rest p.1).2.getLast?).getD [] = p.2)
def idleB (ls : List LawD) (ps : List (List Snd × List Snd)) (k : Nat) : Bool := !ps.any (mattersM (without ls k))
def idleM (ls : List LawD) (wss : List (List Snd)) : Int × List Int :=
 if (pairsM ls wss).1 ≠ 0 then ((pairsM ls wss).1, []) else (0, ((List.range ls.length).filter (idleB ls (pairsM ls wss).2)).map fun (k : Nat) => (k : Int))
end Go.Proofs.YtlgliddhideflaaGreatDoor

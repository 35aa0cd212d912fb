/-
  ablautref29: row, stem, Stem.
  ablautref29: Stem, endings, Endings.
-/
import Derived.Test.YtcpcojgmmpnkoaaGreatDoorXR29c
set_option linter.all false
set_option maxRecDepth 100000
set_option maxHeartbeats 4000000
namespace Go.Proofs.YtcpcojgmmpnkoaaGreatDoor
open Go.RowKit Go.Shelf
def stemW (s : Option (Nat × List Snd)) : List Snd := match s with | none => [] | some s => s.2.take s.1
theorem row_at {T : List (List Frm)} {k : Nat} {l : List Frm} (h : T[k]? = some l) : lineR T (k : Int) = l := by
 unfold lineR
 rw [List.getD_eq_getElem?_getD, show ((k : Int).toNat) = k from Int.toNat_natCast k, h]; rfl
end Go.Proofs.YtcpcojgmmpnkoaaGreatDoor

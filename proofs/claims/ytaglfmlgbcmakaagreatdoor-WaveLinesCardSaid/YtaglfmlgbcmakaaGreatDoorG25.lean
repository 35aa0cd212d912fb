/-
  ablautref06.Table.
  ablautref06.Table, at nodes with others below them.
  ablautref06: Table at any node; both, Begins, Ends.
-/
import Derived.Test.YtaglfmlgbcmakaaGreatDoorG24
set_option linter.all false
set_option maxRecDepth 100000
set_option maxHeartbeats 4000000
namespace Go.Proofs.YtaglfmlgbcmakaaGreatDoor
open Go.RowKit Go.Shelf
def Tab (T:List Nat)(n:Nat)(r:List Nat):Prop:=T.length=n+1/\Bs T∧∀a b,Bt T a b↔Bt r a b
theorem Tab.follow {T T':List Nat}{n:Nat}{r r':List Nat}(h:Tab T n r)(h':Tab T' n r'):Tab (Dn T T') n (Dn r r'):=by
 refine⟨by rw[Ex];exact h.1,Er _ _ h'.2.1,fun a b=> ?_⟩
 rw[Zy,Zy];exact⟨fun⟨m,h1,h2⟩=>⟨m,(h.2.2 a m).1 h1,(h'.2.2 m b).1 h2⟩,fun⟨m,h1,h2⟩=>⟨m,(h.2.2 a m).2 h1,(h'.2.2 m b).2 h2⟩⟩
theorem Tab.join {T T':List Nat}{n:Nat}{r r':List Nat}(h:Tab T n r)(h':Tab T' n r')(hl:r.length=r'.length):Tab (orR T T') n (orR r r'):=by
 refine⟨by unfold orR;rw[List.length_zipWith,h.1,h'.1];omega,Gj _ _ h.2.1 h'.2.1,fun a b=> ?_⟩
 rw[Aih (by rw[h.1,h'.1]),Aih hl,h.2.2,h'.2.2]
end Go.Proofs.YtaglfmlgbcmakaaGreatDoor
namespace Go.Proofs.YtaglfmlgbcmakaaGreatDoor
open Go.RowKit Go.Shelf
open Go.RowKit Go.Shelf
end Go.Proofs.YtaglfmlgbcmakaaGreatDoor

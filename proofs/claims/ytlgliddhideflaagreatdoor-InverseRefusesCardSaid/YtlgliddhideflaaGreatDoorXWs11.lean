/-
  The last region of ablautlaw11.works.
-/
import Derived.Test.YtlgliddhideflaaGreatDoorXWr11
set_option linter.all false
set_option maxRecDepth 100000
set_option maxHeartbeats 4000000
namespace Go.Proofs.YtlgliddhideflaaGreatDoor
open Go.RowKit Go.Shelf
set_option maxRecDepth 100000
theorem Zd {Ax:Option Addr}{nx cx:Nat}{Ay:Option Addr}{ny cy bq oq cz x y z:Nat}{s:Ci}{W:World}{a0:Act}(F:FrW Ax nx cx Ay ny cy bq oq cz x y z a0)(G:WoW Ax nx cx Ay ny cy bq oq x y z s W)(hd:a0.defers=[]){id:Nat}:
  (Code.region id B8 true).wp Tryz.prog (Uh fun a' W'=>a'.defers=[]/\a'.tmps[0]? =some (.bool true)/\Below W.heap.size W W') a0 W:=by
 have a2:Ut B8=true:=by kernel_rfl
 have hsz:B8.size=69:=by kernel_rfl
 have a1:Db B8 68=some 0:=by kernel_rfl
 have hm:Tryz.prog.follows .mixedOrders=true:=by kernel_rfl
 generalize hops:B8=ops at a2 hsz a1;refine Su hm a2 (F3 Ax nx cx Ay ny cy bq oq cz s) a0 W ?h1 ?h2 ?h3 ?h4
 case h1=>exact fun j v w w' h hb=>Wj h hb
 case h2=>subst hops;exact fun i o ho a w' hs hb=>Add F ho hs
 case h3=>subst hops;exact fun i o ho a w' hs hb=>Af8 F G ho hs hb
 case h4=>
  intro vs w' h hb;have a3:68<ops.size:=by omega
  have hz:a0.tmps.size=128:=F.sz;exact⟨hd,(L8 (Mq a2).1 vs (i:=68) (s:=0) a1 _ _ a3 (by rw[hz];decide)).trans (congrArg some (h 68 a3)),hb⟩
end Go.Proofs.YtlgliddhideflaaGreatDoor

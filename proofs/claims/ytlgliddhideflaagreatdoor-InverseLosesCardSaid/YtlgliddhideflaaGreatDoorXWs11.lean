/-
  The last region of ablautlaw11.works.
-/
import Derived.Test.YtlgliddhideflaaGreatDoorXWr11
set_option linter.all false
set_option maxRecDepth 100000
set_option maxHeartbeats 4000000
namespace Go.Proofs.YtlgliddhideflaaGreatDoor
open Go.RowKit Go.Shelf
set_option maxRecDepth 100000
theorem region7_c {Ax : Option Addr} {nx cx : Nat} {Ay : Option Addr} {ny cy bq oq cz x y z : Nat} {s : PairR} {W : World} {a0 : Act} (F : FrW Ax nx cx Ay ny cy bq oq cz x y z a0) (G : WoW Ax nx cx Ay ny cy bq oq x y z s W) (hd : a0.defers = []) {id : Nat} :
  (Code.region id opsW true).wp Tryz.prog (OnlyN fun a' W' => a'.defers = [] ∧ a'.tmps[0]? = some (.bool true) ∧ Below W.heap.size W W') a0 W := by
 have hok : anyOkG opsW = true := by kernel_rfl
 have hsz : opsW.size = 69 := by kernel_rfl
 have hdst : dstOf opsW 68 = some 0 := by kernel_rfl
 have hm : Tryz.prog.follows .mixedOrders = true := by kernel_rfl
 generalize hops : opsW = ops at hok hsz hdst
 refine region_invG hm hok (phiW Ax nx cx Ay ny cy bq oq cz s) a0 W ?h1 ?h2 ?h3 ?h4
 case h1 => exact fun j v w w' h hb => phiW_below h hb
 case h2 => subst hops; exact fun i o ho a w' hs hb => guardsW F ho hs
 case h3 => subst hops; exact fun i o ho a w' hs hb => stepsW F G ho hs hb
 case h4 =>
  intro vs w' h hb
  have h68 : 68 < ops.size := by omega
  have hz : a0.tmps.size = 128 := F.sz
  exact ⟨hd, (putAll_at (anyOkG_spec hok).1 vs (i := 68) (s := 0) hdst _ _ h68 (by rw [hz]; decide)).trans (congrArg some (h 68 h68)), hb⟩
end Go.Proofs.YtlgliddhideflaaGreatDoor

/-
  ablautlaw29.ParadigmBecomes returns true for every input, and never panics. Conditions: those of the row's own cells, no other.
-/
import Derived.Test.YtcpcojgmmpnkoaaGreatDoorXQ2910
set_option linter.all false
set_option maxRecDepth 100000
set_option maxHeartbeats 4000000
namespace Go.Proofs.YtcpcojgmmpnkoaaGreatDoor
open Go.RowKit Go.ChangeShapes Go.WideShapes Go.ChangeAt
theorem paradigmBecomes_card : Rows.ParadigmBecomesCardSaid :=
 Claim7.holds_tied_plain_at .later [] [.data, .data, .pinned] true (true, "657460d1287f3025a9464dad3e75abd267371ba53d8c3de63bb8e6e2a33353f1") true paradigmBecomes_row (fun _ h => by cases h) (by kernel_rfl) (fun _ h => by cases h) paradigmBecomes_row_tie rfl ⟨rfl, rfl⟩ (by kernel_rfl) rfl
  (fun f fn hf hfn => by
   obtain rfl : f = 13 := Option.some.inj ((show Tryz.prog.funcNamed "ablaut/ablautlaw29.ParadigmBecomes" = some 13 by kernel_rfl).symm.trans hf) |>.symm
   obtain rfl : fn = Tryz.f13 := (Option.some.inj (Tryz.func13.symm.trans hfn)).symm
   exact ⟨by kernel_rfl, fun j t ht => by
    rw [Tryz.params13] at ht
    have hm : t ∈ [102, 35, 5] := by simpa using Array.mem_of_getElem? ht
    have hall : ([102, 35, 5].all fun u => !Tryz.prog.wantsStandIn u) = true := by kernel_rfl
    exact (show Tryz.prog.wantsStandIn t = false by simpa using List.all_eq_true.1 hall t hm)⟩)
  (by kernel_rfl)
#print axioms paradigmBecomes_card
end Go.Proofs.YtcpcojgmmpnkoaaGreatDoor

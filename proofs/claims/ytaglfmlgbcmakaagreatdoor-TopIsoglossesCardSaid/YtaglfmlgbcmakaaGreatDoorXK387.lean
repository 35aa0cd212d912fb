/-
  ablauttop.TopIsoglosses returns true for every input, and never panics. Conditions: those of the row's own cells, no other.
-/
import Derived.Test.YtaglfmlgbcmakaaGreatDoorXQ387
set_option linter.all false
set_option maxRecDepth 100000
set_option maxHeartbeats 4000000
namespace Go.Proofs.YtaglfmlgbcmakaaGreatDoor
open Go.RowKit Go.ChangeShapes Go.WideShapes Go.ChangeAt
theorem topIsoglosses_ca:Rows.topIsoglossesRow.wfByText (OpenSpec.ofChange Rows.topIsoglossesSpec)=true:=by kernel_rfl
theorem topIsoglosses_cb:Tryz.pinned.checked.prog.mainIs=some (true, "f30b30b9fc6bb646518b976e08faf1646f838a3b877a094890f96f3870e486ac".toList):=by kernel_rfl
theorem topIsoglosses_cc:false=Rows.topIsoglossesRow.goesBy Tryz.pinned.checked.prog:=by kernel_rfl
theorem topIsoglosses_cd:true=Tryz.pinned.checked.prog.looks []:=by kernel_rfl
theorem topIsoglosses_ce:Tryz.pinned.checked.prog.funcNamed Rows.topIsoglossesRow.func=some 4:=by kernel_rfl
theorem topIsoglosses_card:Rows.TopIsoglossesCardSaid:=
 Claim7.holds_tied_plain_at .later [] [.data, .data, .pinned] true (true, "f30b30b9fc6bb646518b976e08faf1646f838a3b877a094890f96f3870e486ac") true K8 (fun _ h=>by cases h) topIsoglosses_ca (fun _ h=>by cases h) topIsoglosses_row_tie rfl ⟨rfl,rfl⟩ topIsoglosses_cb rfl
  (fun f fn hf hfn=>by
   obtain rfl:f=4:=Option.some.inj (topIsoglosses_ce.symm.trans hf) |>.symm;obtain rfl:fn=Tryz.f4:=(Option.some.inj (Tryz.func4.symm.trans hfn)).symm
   exact⟨topIsoglosses_cd,fun j t ht=>by
    rw[Tryz.params4]at ht;have hm:t∈[25,26,27,28,2]:=by simpa using Array.mem_of_getElem? ht
    have a0:([25,26,27,28,2].all fun u=> !Tryz.prog.wantsStandIn u)=true:=by kernel_rfl
    exact(show Tryz.prog.wantsStandIn t=false by simpa using List.all_eq_true.1 a0 t hm)⟩)
  topIsoglosses_cc
#print axioms topIsoglosses_card
end Go.Proofs.YtaglfmlgbcmakaaGreatDoor

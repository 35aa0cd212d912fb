/-
  ablautlaw38.WaveOrders returns true for every input, and never panics. Conditions: those of the row's own cells, no other.
-/
import Derived.Test.YtaglfmlgbcmakaaGreatDoorXQ381
set_option linter.all false
set_option maxRecDepth 100000
set_option maxHeartbeats 4000000
namespace Go.Proofs.YtaglfmlgbcmakaaGreatDoor
open Go.RowKit Go.ChangeShapes Go.WideShapes Go.ChangeAt
theorem waveOrders_ca:Rows.waveOrdersRow.wfByText (OpenSpec.ofChange Rows.waveOrdersSpec)=true:=by kernel_rfl
theorem waveOrders_cb:Tryz.pinned.checked.prog.mainIs=some (true, "f30b30b9fc6bb646518b976e08faf1646f838a3b877a094890f96f3870e486ac".toList):=by kernel_rfl
theorem waveOrders_cc:false=Rows.waveOrdersRow.goesBy Tryz.pinned.checked.prog:=by kernel_rfl
theorem waveOrders_cd:true=Tryz.pinned.checked.prog.looks []:=by kernel_rfl
theorem waveOrders_ce:Tryz.pinned.checked.prog.funcNamed Rows.waveOrdersRow.func=some 8:=by kernel_rfl
theorem waveOrders_card:Rows.WaveOrdersCardSaid:=
 Claim7.holds_tied_plain_at .later [] [.data, .data, .pinned] true (true, "f30b30b9fc6bb646518b976e08faf1646f838a3b877a094890f96f3870e486ac") true Qz (fun _ h=>by cases h) waveOrders_ca (fun _ h=>by cases h) waveOrders_row_tie rfl ⟨rfl,rfl⟩ waveOrders_cb rfl
  (fun f fn hf hfn=>by
   obtain rfl:f=8:=Option.some.inj (waveOrders_ce.symm.trans hf) |>.symm;obtain rfl:fn=Tryz.f8:=(Option.some.inj (Tryz.func8.symm.trans hfn)).symm
   exact⟨waveOrders_cd,fun j t ht=>by
    rw[Tryz.params8]at ht;have hm:t∈[66]:=by simpa using Array.mem_of_getElem? ht
    have a0:([66].all fun u=> !Tryz.prog.wantsStandIn u)=true:=by kernel_rfl
    exact(show Tryz.prog.wantsStandIn t=false by simpa using List.all_eq_true.1 a0 t hm)⟩)
  waveOrders_cc
#print axioms waveOrders_card
end Go.Proofs.YtaglfmlgbcmakaaGreatDoor

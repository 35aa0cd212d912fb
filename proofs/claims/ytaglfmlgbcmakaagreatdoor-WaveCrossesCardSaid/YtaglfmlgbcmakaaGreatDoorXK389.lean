/-
  ablautlaw38.WaveCrosses returns true for every input, and never panics. Conditions: those of the row's own cells, no other.
-/
import Derived.Test.YtaglfmlgbcmakaaGreatDoorXQ389
set_option linter.all false
set_option maxRecDepth 100000
set_option maxHeartbeats 4000000
namespace Go.Proofs.YtaglfmlgbcmakaaGreatDoor
open Go.RowKit Go.ChangeShapes Go.WideShapes Go.ChangeAt
theorem waveCrosses_ca:Rows.waveCrossesRow.wfByText (OpenSpec.ofChange Rows.waveCrossesSpec)=true:=by kernel_rfl
theorem waveCrosses_cb:Tryz.pinned.checked.prog.mainIs=some (true, "f30b30b9fc6bb646518b976e08faf1646f838a3b877a094890f96f3870e486ac".toList):=by kernel_rfl
theorem waveCrosses_cc:false=Rows.waveCrossesRow.goesBy Tryz.pinned.checked.prog:=by kernel_rfl
theorem waveCrosses_cd:true=Tryz.pinned.checked.prog.looks []:=by kernel_rfl
theorem waveCrosses_ce:Tryz.pinned.checked.prog.funcNamed Rows.waveCrossesRow.func=some 6:=by kernel_rfl
theorem waveCrosses_card:Rows.WaveCrossesCardSaid:=
 Claim7.holds_tied_plain_at .later [] [.data, .data, .pinned] true (true, "f30b30b9fc6bb646518b976e08faf1646f838a3b877a094890f96f3870e486ac") true Q0 (fun _ h=>by cases h) waveCrosses_ca (fun _ h=>by cases h) waveCrosses_row_tie rfl ⟨rfl,rfl⟩ waveCrosses_cb rfl
  (fun f fn hf hfn=>by
   obtain rfl:f=6:=Option.some.inj (waveCrosses_ce.symm.trans hf) |>.symm;obtain rfl:fn=Tryz.f6:=(Option.some.inj (Tryz.func6.symm.trans hfn)).symm
   exact⟨waveCrosses_cd,fun j t ht=>by
    rw[Tryz.params6]at ht;have hm:t∈[66]:=by simpa using Array.mem_of_getElem? ht
    have a0:([66].all fun u=> !Tryz.prog.wantsStandIn u)=true:=by kernel_rfl
    exact(show Tryz.prog.wantsStandIn t=false by simpa using List.all_eq_true.1 a0 t hm)⟩)
  waveCrosses_cc
#print axioms waveCrosses_card
end Go.Proofs.YtaglfmlgbcmakaaGreatDoor

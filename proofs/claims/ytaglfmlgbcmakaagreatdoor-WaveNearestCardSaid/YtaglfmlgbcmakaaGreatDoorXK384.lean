/-
  ablautlaw38.WaveNearest returns true for every input, and never panics. Conditions: those of the row's own cells, no other.
-/
import Derived.Test.YtaglfmlgbcmakaaGreatDoorXQ384
set_option linter.all false
set_option maxRecDepth 100000
set_option maxHeartbeats 4000000
namespace Go.Proofs.YtaglfmlgbcmakaaGreatDoor
open Go.RowKit Go.ChangeShapes Go.WideShapes Go.ChangeAt
theorem waveNearest_ca:Rows.waveNearestRow.wfByText (OpenSpec.ofChange Rows.waveNearestSpec)=true:=by kernel_rfl
theorem waveNearest_cb:Tryz.pinned.checked.prog.mainIs=some (true, "f30b30b9fc6bb646518b976e08faf1646f838a3b877a094890f96f3870e486ac".toList):=by kernel_rfl
theorem waveNearest_cc:false=Rows.waveNearestRow.goesBy Tryz.pinned.checked.prog:=by kernel_rfl
theorem waveNearest_cd:true=Tryz.pinned.checked.prog.looks []:=by kernel_rfl
theorem waveNearest_ce:Tryz.pinned.checked.prog.funcNamed Rows.waveNearestRow.func=some 11:=by kernel_rfl
theorem waveNearest_card:Rows.WaveNearestCardSaid:=
 Claim7.holds_tied_plain_at .later [] [.data, .data, .pinned] true (true, "f30b30b9fc6bb646518b976e08faf1646f838a3b877a094890f96f3870e486ac") true Pj (fun _ h=>by cases h) waveNearest_ca (fun _ h=>by cases h) waveNearest_row_tie rfl ⟨rfl,rfl⟩ waveNearest_cb rfl
  (fun f fn hf hfn=>by
   obtain rfl:f=11:=Option.some.inj (waveNearest_ce.symm.trans hf) |>.symm;obtain rfl:fn=Tryz.f11:=(Option.some.inj (Tryz.func11.symm.trans hfn)).symm
   exact⟨waveNearest_cd,fun j t ht=>by
    rw[Tryz.params11]at ht;have hm:t∈[66]:=by simpa using Array.mem_of_getElem? ht
    have a0:([66].all fun u=> !Tryz.prog.wantsStandIn u)=true:=by kernel_rfl
    exact(show Tryz.prog.wantsStandIn t=false by simpa using List.all_eq_true.1 a0 t hm)⟩)
  waveNearest_cc
#print axioms waveNearest_card
end Go.Proofs.YtaglfmlgbcmakaaGreatDoor

/-
  ablautlaw38.WaveArrives returns true for every input, and never panics. Conditions: those of the row's own cells, no other.
-/
import Derived.Test.YtaglfmlgbcmakaaGreatDoorXQ38A
set_option linter.all false
set_option maxRecDepth 100000
set_option maxHeartbeats 4000000
namespace Go.Proofs.YtaglfmlgbcmakaaGreatDoor
open Go.RowKit Go.ChangeShapes Go.WideShapes Go.ChangeAt
theorem waveArrives_ca:Rows.waveArrivesRow.wfByText (OpenSpec.ofChange Rows.waveArrivesSpec)=true:=by kernel_rfl
theorem waveArrives_cb:Tryz.pinned.checked.prog.mainIs=some (true, "f30b30b9fc6bb646518b976e08faf1646f838a3b877a094890f96f3870e486ac".toList):=by kernel_rfl
theorem waveArrives_cc:false=Rows.waveArrivesRow.goesBy Tryz.pinned.checked.prog:=by kernel_rfl
theorem waveArrives_cd:true=Tryz.pinned.checked.prog.looks []:=by kernel_rfl
theorem waveArrives_ce:Tryz.pinned.checked.prog.funcNamed Rows.waveArrivesRow.func=some 10:=by kernel_rfl
theorem waveArrives_card:Rows.WaveArrivesCardSaid:=
 Claim7.holds_tied_plain_at .later [] [.data, .data, .pinned] true (true, "f30b30b9fc6bb646518b976e08faf1646f838a3b877a094890f96f3870e486ac") true Rd (fun _ h=>by cases h) waveArrives_ca (fun _ h=>by cases h) waveArrives_row_tie rfl ⟨rfl,rfl⟩ waveArrives_cb rfl
  (fun f fn hf hfn=>by
   obtain rfl:f=10:=Option.some.inj (waveArrives_ce.symm.trans hf) |>.symm;obtain rfl:fn=Tryz.f10:=(Option.some.inj (Tryz.func10.symm.trans hfn)).symm
   exact⟨waveArrives_cd,fun j t ht=>by
    rw[Tryz.params10]at ht;have hm:t∈[66]:=by simpa using Array.mem_of_getElem? ht
    have a0:([66].all fun u=> !Tryz.prog.wantsStandIn u)=true:=by kernel_rfl
    exact(show Tryz.prog.wantsStandIn t=false by simpa using List.all_eq_true.1 a0 t hm)⟩)
  waveArrives_cc
#print axioms waveArrives_card
end Go.Proofs.YtaglfmlgbcmakaaGreatDoor

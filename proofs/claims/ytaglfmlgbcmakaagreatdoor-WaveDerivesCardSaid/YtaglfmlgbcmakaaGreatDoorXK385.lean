/-
  ablautlaw38.WaveDerives returns true for every input, and never panics. Conditions: those of the row's own cells, no other.
-/
import Derived.Test.YtaglfmlgbcmakaaGreatDoorXQ385
set_option linter.all false
set_option maxRecDepth 100000
set_option maxHeartbeats 4000000
namespace Go.Proofs.YtaglfmlgbcmakaaGreatDoor
open Go.RowKit Go.ChangeShapes Go.WideShapes Go.ChangeAt
theorem waveDerives_ca:Rows.waveDerivesRow.wfByText (OpenSpec.ofChange Rows.waveDerivesSpec)=true:=by kernel_rfl
theorem waveDerives_cb:Tryz.pinned.checked.prog.mainIs=some (true, "f30b30b9fc6bb646518b976e08faf1646f838a3b877a094890f96f3870e486ac".toList):=by kernel_rfl
theorem waveDerives_cc:false=Rows.waveDerivesRow.goesBy Tryz.pinned.checked.prog:=by kernel_rfl
theorem waveDerives_cd:true=Tryz.pinned.checked.prog.looks []:=by kernel_rfl
theorem waveDerives_ce:Tryz.pinned.checked.prog.funcNamed Rows.waveDerivesRow.func=some 13:=by kernel_rfl
theorem waveDerives_card:Rows.WaveDerivesCardSaid:=
 Claim7.holds_tied_plain_at .later [] [.data, .data, .pinned] true (true, "f30b30b9fc6bb646518b976e08faf1646f838a3b877a094890f96f3870e486ac") true Pq (fun _ h=>by cases h) waveDerives_ca (fun _ h=>by cases h) waveDerives_row_tie rfl ⟨rfl,rfl⟩ waveDerives_cb rfl
  (fun f fn hf hfn=>by
   obtain rfl:f=13:=Option.some.inj (waveDerives_ce.symm.trans hf) |>.symm;obtain rfl:fn=Tryz.f13:=(Option.some.inj (Tryz.func13.symm.trans hfn)).symm
   exact⟨waveDerives_cd,fun j t ht=>by
    rw[Tryz.params13]at ht;have hm:t∈[66]:=by simpa using Array.mem_of_getElem? ht
    have a0:([66].all fun u=> !Tryz.prog.wantsStandIn u)=true:=by kernel_rfl
    exact(show Tryz.prog.wantsStandIn t=false by simpa using List.all_eq_true.1 a0 t hm)⟩)
  waveDerives_cc
#print axioms waveDerives_card
end Go.Proofs.YtaglfmlgbcmakaaGreatDoor

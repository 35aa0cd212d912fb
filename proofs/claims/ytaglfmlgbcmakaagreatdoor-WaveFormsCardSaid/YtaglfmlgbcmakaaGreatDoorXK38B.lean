/-
  ablautlaw38.WaveForms returns true for every input, and never panics. Conditions: those of the row's own cells, no other.
-/
import Derived.Test.YtaglfmlgbcmakaaGreatDoorXQ38B
set_option linter.all false
set_option maxRecDepth 100000
set_option maxHeartbeats 4000000
namespace Go.Proofs.YtaglfmlgbcmakaaGreatDoor
open Go.RowKit Go.ChangeShapes Go.WideShapes Go.ChangeAt
theorem waveForms_ca:Rows.waveFormsRow.wfByText (OpenSpec.ofChange Rows.waveFormsSpec)=true:=by kernel_rfl
theorem waveForms_cb:Tryz.pinned.checked.prog.mainIs=some (true, "f30b30b9fc6bb646518b976e08faf1646f838a3b877a094890f96f3870e486ac".toList):=by kernel_rfl
theorem waveForms_cc:false=Rows.waveFormsRow.goesBy Tryz.pinned.checked.prog:=by kernel_rfl
theorem waveForms_cd:true=Tryz.pinned.checked.prog.looks []:=by kernel_rfl
theorem waveForms_ce:Tryz.pinned.checked.prog.funcNamed Rows.waveFormsRow.func=some 12:=by kernel_rfl
theorem waveForms_card:Rows.WaveFormsCardSaid:=
 Claim7.holds_tied_plain_at .later [] [.data, .data, .pinned] true (true, "f30b30b9fc6bb646518b976e08faf1646f838a3b877a094890f96f3870e486ac") true Up (fun _ h=>by cases h) waveForms_ca (fun _ h=>by cases h) waveForms_row_tie rfl ⟨rfl,rfl⟩ waveForms_cb rfl
  (fun f fn hf hfn=>by
   obtain rfl:f=12:=Option.some.inj (waveForms_ce.symm.trans hf) |>.symm;obtain rfl:fn=Tryz.f12:=(Option.some.inj (Tryz.func12.symm.trans hfn)).symm
   exact⟨waveForms_cd,fun j t ht=>by
    rw[Tryz.params12]at ht;have hm:t∈[66]:=by simpa using Array.mem_of_getElem? ht
    have a0:([66].all fun u=> !Tryz.prog.wantsStandIn u)=true:=by kernel_rfl
    exact(show Tryz.prog.wantsStandIn t=false by simpa using List.all_eq_true.1 a0 t hm)⟩)
  waveForms_cc
#print axioms waveForms_card
end Go.Proofs.YtaglfmlgbcmakaaGreatDoor

/-
  ablautlaw38.WaveStarts returns true for every input, and never panics. Conditions: those of the row's own cells, no other.
-/
import Derived.Test.YtaglfmlgbcmakaaGreatDoorXQ383
set_option linter.all false
set_option maxRecDepth 100000
set_option maxHeartbeats 4000000
namespace Go.Proofs.YtaglfmlgbcmakaaGreatDoor
open Go.RowKit Go.ChangeShapes Go.WideShapes Go.ChangeAt
theorem waveStarts_ca:Rows.waveStartsRow.wfByText (OpenSpec.ofChange Rows.waveStartsSpec)=true:=by kernel_rfl
theorem waveStarts_cb:Tryz.pinned.checked.prog.mainIs=some (true, "f30b30b9fc6bb646518b976e08faf1646f838a3b877a094890f96f3870e486ac".toList):=by kernel_rfl
theorem waveStarts_cc:false=Rows.waveStartsRow.goesBy Tryz.pinned.checked.prog:=by kernel_rfl
theorem waveStarts_cd:true=Tryz.pinned.checked.prog.looks []:=by kernel_rfl
theorem waveStarts_ce:Tryz.pinned.checked.prog.funcNamed Rows.waveStartsRow.func=some 9:=by kernel_rfl
theorem waveStarts_card:Rows.WaveStartsCardSaid:=
 Claim7.holds_tied_plain_at .later [] [.data, .data, .pinned] true (true, "f30b30b9fc6bb646518b976e08faf1646f838a3b877a094890f96f3870e486ac") true Rc (fun _ h=>by cases h) waveStarts_ca (fun _ h=>by cases h) waveStarts_row_tie rfl ⟨rfl,rfl⟩ waveStarts_cb rfl
  (fun f fn hf hfn=>by
   obtain rfl:f=9:=Option.some.inj (waveStarts_ce.symm.trans hf) |>.symm;obtain rfl:fn=Tryz.f9:=(Option.some.inj (Tryz.func9.symm.trans hfn)).symm
   exact⟨waveStarts_cd,fun j t ht=>by
    rw[Tryz.params9]at ht;have hm:t∈[66]:=by simpa using Array.mem_of_getElem? ht
    have a0:([66].all fun u=> !Tryz.prog.wantsStandIn u)=true:=by kernel_rfl
    exact(show Tryz.prog.wantsStandIn t=false by simpa using List.all_eq_true.1 a0 t hm)⟩)
  waveStarts_cc
#print axioms waveStarts_card
end Go.Proofs.YtaglfmlgbcmakaaGreatDoor

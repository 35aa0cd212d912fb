/-
  ablautlaw38.WaveLines returns true for every input, and never panics. Conditions: those of the row's own cells, no other.
-/
import Derived.Test.YtaglfmlgbcmakaaGreatDoorXQ388
set_option linter.all false
set_option maxRecDepth 100000
set_option maxHeartbeats 4000000
namespace Go.Proofs.YtaglfmlgbcmakaaGreatDoor
open Go.RowKit Go.ChangeShapes Go.WideShapes Go.ChangeAt
theorem waveLines_ca:Rows.waveLinesRow.wfByText (OpenSpec.ofChange Rows.waveLinesSpec)=true:=by kernel_rfl
theorem waveLines_cb:Tryz.pinned.checked.prog.mainIs=some (true, "f30b30b9fc6bb646518b976e08faf1646f838a3b877a094890f96f3870e486ac".toList):=by kernel_rfl
theorem waveLines_cc:false=Rows.waveLinesRow.goesBy Tryz.pinned.checked.prog:=by kernel_rfl
theorem waveLines_cd:true=Tryz.pinned.checked.prog.looks []:=by kernel_rfl
theorem waveLines_ce:Tryz.pinned.checked.prog.funcNamed Rows.waveLinesRow.func=some 5:=by kernel_rfl
theorem waveLines_card:Rows.WaveLinesCardSaid:=
 Claim7.holds_tied_plain_at .later [] [.data, .data, .pinned] true (true, "f30b30b9fc6bb646518b976e08faf1646f838a3b877a094890f96f3870e486ac") true T1 (fun _ h=>by cases h) waveLines_ca (fun _ h=>by cases h) waveLines_row_tie rfl ⟨rfl,rfl⟩ waveLines_cb rfl
  (fun f fn hf hfn=>by
   obtain rfl:f=5:=Option.some.inj (waveLines_ce.symm.trans hf) |>.symm;obtain rfl:fn=Tryz.f5:=(Option.some.inj (Tryz.func5.symm.trans hfn)).symm
   exact⟨waveLines_cd,fun j t ht=>by
    rw[Tryz.params5]at ht;have hm:t∈[66]:=by simpa using Array.mem_of_getElem? ht
    have a0:([66].all fun u=> !Tryz.prog.wantsStandIn u)=true:=by kernel_rfl
    exact(show Tryz.prog.wantsStandIn t=false by simpa using List.all_eq_true.1 a0 t hm)⟩)
  waveLines_cc
#print axioms waveLines_card
end Go.Proofs.YtaglfmlgbcmakaaGreatDoor

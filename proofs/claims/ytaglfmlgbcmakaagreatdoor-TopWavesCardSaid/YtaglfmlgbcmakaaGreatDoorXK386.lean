/-
  ablauttop.TopWaves returns true for every input, and never panics. Conditions: those of the row's own cells, no other.
-/
import Derived.Test.YtaglfmlgbcmakaaGreatDoorXQ386
set_option linter.all false
set_option maxRecDepth 100000
set_option maxHeartbeats 4000000
namespace Go.Proofs.YtaglfmlgbcmakaaGreatDoor
open Go.RowKit Go.ChangeShapes Go.WideShapes Go.ChangeAt
theorem topWaves_ca:Rows.topWavesRow.wfByText (OpenSpec.ofChange Rows.topWavesSpec)=true:=by kernel_rfl
theorem topWaves_cb:Tryz.pinned.checked.prog.mainIs=some (true, "f30b30b9fc6bb646518b976e08faf1646f838a3b877a094890f96f3870e486ac".toList):=by kernel_rfl
theorem topWaves_cc:false=Rows.topWavesRow.goesBy Tryz.pinned.checked.prog:=by kernel_rfl
theorem topWaves_cd:true=Tryz.pinned.checked.prog.looks []:=by kernel_rfl
theorem topWaves_ce:Tryz.pinned.checked.prog.funcNamed Rows.topWavesRow.func=some 3:=by kernel_rfl
theorem topWaves_card:Rows.TopWavesCardSaid:=
 Claim7.holds_tied_plain_at .later [] [.data, .data, .pinned] true (true, "f30b30b9fc6bb646518b976e08faf1646f838a3b877a094890f96f3870e486ac") true Wp (fun _ h=>by cases h) topWaves_ca (fun _ h=>by cases h) topWaves_row_tie rfl ⟨rfl,rfl⟩ topWaves_cb rfl
  (fun f fn hf hfn=>by
   obtain rfl:f=3:=Option.some.inj (topWaves_ce.symm.trans hf) |>.symm;obtain rfl:fn=Tryz.f3:=(Option.some.inj (Tryz.func3.symm.trans hfn)).symm
   exact⟨topWaves_cd,fun j t ht=>by
    rw[Tryz.params3]at ht;have hm:t∈[25,26,27,28,2]:=by simpa using Array.mem_of_getElem? ht
    have a0:([25,26,27,28,2].all fun u=> !Tryz.prog.wantsStandIn u)=true:=by kernel_rfl
    exact(show Tryz.prog.wantsStandIn t=false by simpa using List.all_eq_true.1 a0 t hm)⟩)
  topWaves_cc
#print axioms topWaves_card
end Go.Proofs.YtaglfmlgbcmakaaGreatDoor

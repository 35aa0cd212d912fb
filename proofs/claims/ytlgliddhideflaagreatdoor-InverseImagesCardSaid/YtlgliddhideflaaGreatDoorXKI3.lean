/-
  ablautlaw11.InverseImages is true of every input. Conditions: those of the row's own cells, no other.
-/
import Derived.Test.YtlgliddhideflaaGreatDoorXQI3
set_option linter.all false
set_option maxRecDepth 100000
set_option maxHeartbeats 4000000
namespace Go.Proofs.YtlgliddhideflaaGreatDoor
open Go.RowKit Go.ChangeShapes Go.WideShapes Go.ChangeAt
theorem inverseImages_ca:Rows.inverseImagesRow.wfByText (OpenSpec.ofChange Rows.inverseImagesSpec)=true:=by kernel_rfl
theorem inverseImages_cb:Tryz.pinned.checked.prog.mainIs=some (true, "778631d2666f4d4dbc68f712c5eacee8e7ce098a3a336136d14bcb98164a4eee".toList):=by kernel_rfl
theorem inverseImages_cc:false=Rows.inverseImagesRow.goesBy Tryz.pinned.checked.prog:=by kernel_rfl
theorem inverseImages_cd:true=Tryz.pinned.checked.prog.looks []:=by kernel_rfl
theorem inverseImages_ce:Tryz.pinned.checked.prog.funcNamed Rows.inverseImagesRow.func=some 6:=by kernel_rfl
theorem inverseImages_card:Rows.InverseImagesCardSaid:=
 Claim7.holds_tied_plain_at .later [] [.data, .data, .pinned] true (true, "778631d2666f4d4dbc68f712c5eacee8e7ce098a3a336136d14bcb98164a4eee") true Qu (fun _ h=>by cases h) inverseImages_ca (fun _ h=>by cases h) inverseImages_row_tie rfl ⟨rfl,rfl⟩ inverseImages_cb rfl
  (fun f fn hf hfn=>by
   obtain rfl:f=6:=Option.some.inj (inverseImages_ce.symm.trans hf) |>.symm;obtain rfl:fn=Tryz.f6:=(Option.some.inj (Tryz.func6.symm.trans hfn)).symm
   exact⟨inverseImages_cd,fun j t ht=>by
    rw[Tryz.params6]at ht;have hm:t∈[35,32,3]:=by simpa using Array.mem_of_getElem? ht
    have a0:([35,32,3].all fun u=> !Tryz.prog.wantsStandIn u)=true:=by kernel_rfl
    exact(show Tryz.prog.wantsStandIn t=false by simpa using List.all_eq_true.1 a0 t hm)⟩)
  inverseImages_cc
#print axioms inverseImages_card
end Go.Proofs.YtlgliddhideflaaGreatDoor

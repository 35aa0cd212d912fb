/-
  ablautlaw11.InverseAlls is true of every input. Conditions: those of the row's own cells, no other.
-/
import Derived.Test.YtlgliddhideflaaGreatDoorXQI2
set_option linter.all false
set_option maxRecDepth 100000
set_option maxHeartbeats 4000000
namespace Go.Proofs.YtlgliddhideflaaGreatDoor
open Go.RowKit Go.ChangeShapes Go.WideShapes Go.ChangeAt
theorem inverseAlls_ca:Rows.inverseAllsRow.wfByText (OpenSpec.ofChange Rows.inverseAllsSpec)=true:=by kernel_rfl
theorem inverseAlls_cb:Tryz.pinned.checked.prog.mainIs=some (true, "778631d2666f4d4dbc68f712c5eacee8e7ce098a3a336136d14bcb98164a4eee".toList):=by kernel_rfl
theorem inverseAlls_cc:false=Rows.inverseAllsRow.goesBy Tryz.pinned.checked.prog:=by kernel_rfl
theorem inverseAlls_cd:true=Tryz.pinned.checked.prog.looks []:=by kernel_rfl
theorem inverseAlls_ce:Tryz.pinned.checked.prog.funcNamed Rows.inverseAllsRow.func=some 10:=by kernel_rfl
theorem inverseAlls_card:Rows.InverseAllsCardSaid:=
 Claim7.holds_tied_plain_at .later [] [.data, .data, .pinned] true (true, "778631d2666f4d4dbc68f712c5eacee8e7ce098a3a336136d14bcb98164a4eee") true Uh (fun _ h=>by cases h) inverseAlls_ca (fun _ h=>by cases h) inverseAlls_row_tie rfl ⟨rfl,rfl⟩ inverseAlls_cb rfl
  (fun f fn hf hfn=>by
   obtain rfl:f=10:=Option.some.inj (inverseAlls_ce.symm.trans hf) |>.symm;obtain rfl:fn=Tryz.f10:=(Option.some.inj (Tryz.func10.symm.trans hfn)).symm
   exact⟨inverseAlls_cd,fun j t ht=>by
    rw[Tryz.params10]at ht;have hm:t∈[35,32,32,3]:=by simpa using Array.mem_of_getElem? ht
    have a0:([35,32,32,3].all fun u=> !Tryz.prog.wantsStandIn u)=true:=by kernel_rfl
    exact(show Tryz.prog.wantsStandIn t=false by simpa using List.all_eq_true.1 a0 t hm)⟩)
  inverseAlls_cc
#print axioms inverseAlls_card
end Go.Proofs.YtlgliddhideflaaGreatDoor

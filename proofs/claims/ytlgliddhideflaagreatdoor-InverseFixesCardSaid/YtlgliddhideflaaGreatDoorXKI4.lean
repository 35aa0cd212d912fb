/-
  ablautlaw11.InverseFixes is true of every input. Conditions: those of the row's own cells, no other.
-/
import Derived.Test.YtlgliddhideflaaGreatDoorXQI4
set_option linter.all false
set_option maxRecDepth 100000
set_option maxHeartbeats 4000000
namespace Go.Proofs.YtlgliddhideflaaGreatDoor
open Go.RowKit Go.ChangeShapes Go.WideShapes Go.ChangeAt
theorem inverseFixes_ca:Rows.inverseFixesRow.wfByText (OpenSpec.ofChange Rows.inverseFixesSpec)=true:=by kernel_rfl
theorem inverseFixes_cb:Tryz.pinned.checked.prog.mainIs=some (true, "778631d2666f4d4dbc68f712c5eacee8e7ce098a3a336136d14bcb98164a4eee".toList):=by kernel_rfl
theorem inverseFixes_cc:false=Rows.inverseFixesRow.goesBy Tryz.pinned.checked.prog:=by kernel_rfl
theorem inverseFixes_cd:true=Tryz.pinned.checked.prog.looks []:=by kernel_rfl
theorem inverseFixes_ce:Tryz.pinned.checked.prog.funcNamed Rows.inverseFixesRow.func=some 7:=by kernel_rfl
theorem inverseFixes_card:Rows.InverseFixesCardSaid:=
 Claim7.holds_tied_plain_at .later [] [.data, .data, .pinned] true (true, "778631d2666f4d4dbc68f712c5eacee8e7ce098a3a336136d14bcb98164a4eee") true Sn (fun _ h=>by cases h) inverseFixes_ca (fun _ h=>by cases h) inverseFixes_row_tie rfl ⟨rfl,rfl⟩ inverseFixes_cb rfl
  (fun f fn hf hfn=>by
   obtain rfl:f=7:=Option.some.inj (inverseFixes_ce.symm.trans hf) |>.symm;obtain rfl:fn=Tryz.f7:=(Option.some.inj (Tryz.func7.symm.trans hfn)).symm
   exact⟨inverseFixes_cd,fun j t ht=>by
    rw[Tryz.params7]at ht;have hm:t∈[34,32,3]:=by simpa using Array.mem_of_getElem? ht
    have a0:([34,32,3].all fun u=> !Tryz.prog.wantsStandIn u)=true:=by kernel_rfl
    exact(show Tryz.prog.wantsStandIn t=false by simpa using List.all_eq_true.1 a0 t hm)⟩)
  inverseFixes_cc
#print axioms inverseFixes_card
end Go.Proofs.YtlgliddhideflaaGreatDoor

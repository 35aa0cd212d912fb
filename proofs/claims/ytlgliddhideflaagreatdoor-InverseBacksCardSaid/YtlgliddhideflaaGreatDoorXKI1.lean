/-
  ablautlaw11.InverseBacks is true of every input. Conditions: those of the row's own cells, no other.
-/
import Derived.Test.YtlgliddhideflaaGreatDoorXQI1
set_option linter.all false
set_option maxRecDepth 100000
set_option maxHeartbeats 4000000
namespace Go.Proofs.YtlgliddhideflaaGreatDoor
open Go.RowKit Go.ChangeShapes Go.WideShapes Go.ChangeAt
theorem inverseBacks_ca:Rows.inverseBacksRow.wfByText (OpenSpec.ofChange Rows.inverseBacksSpec)=true:=by kernel_rfl
theorem inverseBacks_cb:Tryz.pinned.checked.prog.mainIs=some (true, "778631d2666f4d4dbc68f712c5eacee8e7ce098a3a336136d14bcb98164a4eee".toList):=by kernel_rfl
theorem inverseBacks_cc:false=Rows.inverseBacksRow.goesBy Tryz.pinned.checked.prog:=by kernel_rfl
theorem inverseBacks_cd:true=Tryz.pinned.checked.prog.looks []:=by kernel_rfl
theorem inverseBacks_ce:Tryz.pinned.checked.prog.funcNamed Rows.inverseBacksRow.func=some 5:=by kernel_rfl
theorem inverseBacks_card:Rows.InverseBacksCardSaid:=
 Claim7.holds_tied_plain_at .later [] [.data, .data, .pinned] true (true, "778631d2666f4d4dbc68f712c5eacee8e7ce098a3a336136d14bcb98164a4eee") true Sc (fun _ h=>by cases h) inverseBacks_ca (fun _ h=>by cases h) inverseBacks_row_tie rfl ⟨rfl,rfl⟩ inverseBacks_cb rfl
  (fun f fn hf hfn=>by
   obtain rfl:f=5:=Option.some.inj (inverseBacks_ce.symm.trans hf) |>.symm;obtain rfl:fn=Tryz.f5:=(Option.some.inj (Tryz.func5.symm.trans hfn)).symm
   exact⟨inverseBacks_cd,fun j t ht=>by
    rw[Tryz.params5]at ht;have hm:t∈[34,32,32,3]:=by simpa using Array.mem_of_getElem? ht
    have a0:([34,32,32,3].all fun u=> !Tryz.prog.wantsStandIn u)=true:=by kernel_rfl
    exact(show Tryz.prog.wantsStandIn t=false by simpa using List.all_eq_true.1 a0 t hm)⟩)
  inverseBacks_cc
#print axioms inverseBacks_card
end Go.Proofs.YtlgliddhideflaaGreatDoor

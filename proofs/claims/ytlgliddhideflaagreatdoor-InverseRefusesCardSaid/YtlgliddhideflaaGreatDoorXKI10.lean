/-
  ablautlaw11.InverseRefuses is true of every input. Conditions: those of the row's own cells, no other.
-/
import Derived.Test.YtlgliddhideflaaGreatDoorXQI10
set_option linter.all false
set_option maxRecDepth 100000
set_option maxHeartbeats 4000000
namespace Go.Proofs.YtlgliddhideflaaGreatDoor
open Go.RowKit Go.ChangeShapes Go.WideShapes Go.ChangeAt
theorem inverseRefuses_ca:Rows.inverseRefusesRow.wfByText (OpenSpec.ofChange Rows.inverseRefusesSpec)=true:=by kernel_rfl
theorem inverseRefuses_cb:Tryz.pinned.checked.prog.mainIs=some (true, "778631d2666f4d4dbc68f712c5eacee8e7ce098a3a336136d14bcb98164a4eee".toList):=by kernel_rfl
theorem inverseRefuses_cc:false=Rows.inverseRefusesRow.goesBy Tryz.pinned.checked.prog:=by kernel_rfl
theorem inverseRefuses_cd:true=Tryz.pinned.checked.prog.looks []:=by kernel_rfl
theorem inverseRefuses_ce:Tryz.pinned.checked.prog.funcNamed Rows.inverseRefusesRow.func=some 14:=by kernel_rfl
theorem inverseRefuses_card:Rows.InverseRefusesCardSaid:=
 Claim7.holds_tied_plain_at .later [] [.data, .data, .pinned] true (true, "778631d2666f4d4dbc68f712c5eacee8e7ce098a3a336136d14bcb98164a4eee") true Ks (fun _ h=>by cases h) inverseRefuses_ca (fun _ h=>by cases h) inverseRefuses_row_tie rfl ⟨rfl,rfl⟩ inverseRefuses_cb rfl
  (fun f fn hf hfn=>by
   obtain rfl:f=14:=Option.some.inj (inverseRefuses_ce.symm.trans hf) |>.symm;obtain rfl:fn=Tryz.f14:=(Option.some.inj (Tryz.func14.symm.trans hfn)).symm
   exact⟨inverseRefuses_cd,fun j t ht=>by
    rw[Tryz.params14]at ht;have hm:t∈[5,3,3]:=by simpa using Array.mem_of_getElem? ht
    have a0:([5,3,3].all fun u=> !Tryz.prog.wantsStandIn u)=true:=by kernel_rfl
    exact(show Tryz.prog.wantsStandIn t=false by simpa using List.all_eq_true.1 a0 t hm)⟩)
  inverseRefuses_cc
#print axioms inverseRefuses_card
end Go.Proofs.YtlgliddhideflaaGreatDoor

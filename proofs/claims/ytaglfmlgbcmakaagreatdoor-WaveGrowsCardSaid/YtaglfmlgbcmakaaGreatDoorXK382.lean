/-
  ablautlaw38.WaveGrows returns true for every input, and never panics. Conditions: those of the row's own cells, no other.
-/
import Derived.Test.YtaglfmlgbcmakaaGreatDoorXQ382
set_option linter.all false
set_option maxRecDepth 100000
set_option maxHeartbeats 4000000
namespace Go.Proofs.YtaglfmlgbcmakaaGreatDoor
open Go.RowKit Go.ChangeShapes Go.WideShapes Go.ChangeAt
theorem waveGrows_ca:Rows.waveGrowsRow.wfByText (OpenSpec.ofChange Rows.waveGrowsSpec)=true:=by kernel_rfl
theorem waveGrows_cb:Tryz.pinned.checked.prog.mainIs=some (true, "f30b30b9fc6bb646518b976e08faf1646f838a3b877a094890f96f3870e486ac".toList):=by kernel_rfl
theorem waveGrows_cc:false=Rows.waveGrowsRow.goesBy Tryz.pinned.checked.prog:=by kernel_rfl
theorem waveGrows_cd:true=Tryz.pinned.checked.prog.looks []:=by kernel_rfl
theorem waveGrows_ce:Tryz.pinned.checked.prog.funcNamed Rows.waveGrowsRow.func=some 7:=by kernel_rfl
theorem waveGrows_card:Rows.WaveGrowsCardSaid:=
 Claim7.holds_tied_plain_at .later [] [.data, .data, .pinned] true (true, "f30b30b9fc6bb646518b976e08faf1646f838a3b877a094890f96f3870e486ac") true Sy (fun _ h=>by cases h) waveGrows_ca (fun _ h=>by cases h) waveGrows_row_tie rfl ⟨rfl,rfl⟩ waveGrows_cb rfl
  (fun f fn hf hfn=>by
   obtain rfl:f=7:=Option.some.inj (waveGrows_ce.symm.trans hf) |>.symm;obtain rfl:fn=Tryz.f7:=(Option.some.inj (Tryz.func7.symm.trans hfn)).symm
   exact⟨waveGrows_cd,fun j t ht=>by
    rw[Tryz.params7]at ht;have hm:t∈[66,47]:=by simpa using Array.mem_of_getElem? ht
    have a0:([66,47].all fun u=> !Tryz.prog.wantsStandIn u)=true:=by kernel_rfl
    exact(show Tryz.prog.wantsStandIn t=false by simpa using List.all_eq_true.1 a0 t hm)⟩)
  waveGrows_cc
#print axioms waveGrows_card
end Go.Proofs.YtaglfmlgbcmakaaGreatDoor

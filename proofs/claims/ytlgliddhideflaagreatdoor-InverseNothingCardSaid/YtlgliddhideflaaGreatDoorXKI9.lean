/-
  ablautlaw11.InverseNothing is true of every input. Conditions: those of the row's own cells, no other.
-/
import Derived.Test.YtlgliddhideflaaGreatDoorXQI9
set_option linter.all false
set_option maxRecDepth 100000
set_option maxHeartbeats 4000000
namespace Go.Proofs.YtlgliddhideflaaGreatDoor
open Go.RowKit Go.ChangeShapes Go.WideShapes Go.ChangeAt
theorem inverseNothing_ca : Rows.inverseNothingRow.wfByText (OpenSpec.ofChange Rows.inverseNothingSpec) = true := by kernel_rfl
theorem inverseNothing_cb : Tryz.pinned.checked.prog.mainIs = some (true, "778631d2666f4d4dbc68f712c5eacee8e7ce098a3a336136d14bcb98164a4eee".toList) := by kernel_rfl
theorem inverseNothing_cc : false = Rows.inverseNothingRow.goesBy Tryz.pinned.checked.prog := by kernel_rfl
theorem inverseNothing_cd : true = Tryz.pinned.checked.prog.looks [] := by kernel_rfl
theorem inverseNothing_ce : Tryz.pinned.checked.prog.funcNamed Rows.inverseNothingRow.func = some 12 := by kernel_rfl
theorem inverseNothing_card : Rows.InverseNothingCardSaid :=
 Claim7.holds_tied_plain_at .later [] [.data, .data, .pinned] true (true, "778631d2666f4d4dbc68f712c5eacee8e7ce098a3a336136d14bcb98164a4eee") true inverseNothing_row (fun _ h => by cases h) inverseNothing_ca (fun _ h => by cases h) inverseNothing_row_tie rfl ⟨rfl, rfl⟩ inverseNothing_cb rfl
  (fun f fn hf hfn => by
   obtain rfl : f = 12 := Option.some.inj (inverseNothing_ce.symm.trans hf) |>.symm
   obtain rfl : fn = Tryz.f12 := (Option.some.inj (Tryz.func12.symm.trans hfn)).symm
   exact ⟨inverseNothing_cd, fun j t ht => by
    rw [Tryz.params12] at ht
    have hm : t ∈ [5, 101, 5] := by simpa using Array.mem_of_getElem? ht
    have hall : ([5, 101, 5].all fun u => !Tryz.prog.wantsStandIn u) = true := by kernel_rfl
    exact (show Tryz.prog.wantsStandIn t = false by simpa using List.all_eq_true.1 hall t hm)⟩)
  inverseNothing_cc
#print axioms inverseNothing_card
end Go.Proofs.YtlgliddhideflaaGreatDoor

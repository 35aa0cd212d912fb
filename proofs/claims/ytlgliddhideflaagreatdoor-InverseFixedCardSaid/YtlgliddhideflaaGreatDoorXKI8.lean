/-
  ablautlaw11.InverseFixed is true of every input. Conditions: those of the row's own cells, no other.
-/
import Derived.Test.YtlgliddhideflaaGreatDoorXQI8
set_option linter.all false
set_option maxRecDepth 100000
set_option maxHeartbeats 4000000
namespace Go.Proofs.YtlgliddhideflaaGreatDoor
open Go.RowKit Go.ChangeShapes Go.WideShapes Go.ChangeAt
theorem inverseFixed_ca : Rows.inverseFixedRow.wfByText (OpenSpec.ofChange Rows.inverseFixedSpec) = true := by kernel_rfl
theorem inverseFixed_cb : Tryz.pinned.checked.prog.mainIs = some (true, "778631d2666f4d4dbc68f712c5eacee8e7ce098a3a336136d14bcb98164a4eee".toList) := by kernel_rfl
theorem inverseFixed_cc : false = Rows.inverseFixedRow.goesBy Tryz.pinned.checked.prog := by kernel_rfl
theorem inverseFixed_cd : true = Tryz.pinned.checked.prog.looks [] := by kernel_rfl
theorem inverseFixed_ce : Tryz.pinned.checked.prog.funcNamed Rows.inverseFixedRow.func = some 9 := by kernel_rfl
theorem inverseFixed_card : Rows.InverseFixedCardSaid :=
 Claim7.holds_tied_plain_at .later [] [.data, .data, .pinned] true (true, "778631d2666f4d4dbc68f712c5eacee8e7ce098a3a336136d14bcb98164a4eee") true inverseFixed_row (fun _ h => by cases h) inverseFixed_ca (fun _ h => by cases h) inverseFixed_row_tie rfl ⟨rfl, rfl⟩ inverseFixed_cb rfl
  (fun f fn hf hfn => by
   obtain rfl : f = 9 := Option.some.inj (inverseFixed_ce.symm.trans hf) |>.symm
   obtain rfl : fn = Tryz.f9 := (Option.some.inj (Tryz.func9.symm.trans hfn)).symm
   exact ⟨inverseFixed_cd, fun j t ht => by
    rw [Tryz.params9] at ht
    have hm : t ∈ [34, 5, 5] := by simpa using Array.mem_of_getElem? ht
    have hall : ([34, 5, 5].all fun u => !Tryz.prog.wantsStandIn u) = true := by kernel_rfl
    exact (show Tryz.prog.wantsStandIn t = false by simpa using List.all_eq_true.1 hall t hm)⟩)
  inverseFixed_cc
#print axioms inverseFixed_card
end Go.Proofs.YtlgliddhideflaaGreatDoor

/-
  ablautlaw11.InverseLoses is true of every input. Conditions: those of the row's own cells, no other.
-/
import Derived.Test.YtlgliddhideflaaGreatDoorXQI7
set_option linter.all false
set_option maxRecDepth 100000
set_option maxHeartbeats 4000000
namespace Go.Proofs.YtlgliddhideflaaGreatDoor
open Go.RowKit Go.ChangeShapes Go.WideShapes Go.ChangeAt
theorem inverseLoses_ca : Rows.inverseLosesRow.wfByText (OpenSpec.ofChange Rows.inverseLosesSpec) = true := by kernel_rfl
theorem inverseLoses_cb : Tryz.pinned.checked.prog.mainIs = some (true, "778631d2666f4d4dbc68f712c5eacee8e7ce098a3a336136d14bcb98164a4eee".toList) := by kernel_rfl
theorem inverseLoses_cc : false = Rows.inverseLosesRow.goesBy Tryz.pinned.checked.prog := by kernel_rfl
theorem inverseLoses_cd : true = Tryz.pinned.checked.prog.looks [] := by kernel_rfl
theorem inverseLoses_ce : Tryz.pinned.checked.prog.funcNamed Rows.inverseLosesRow.func = some 8 := by kernel_rfl
theorem inverseLoses_card : Rows.InverseLosesCardSaid :=
 Claim7.holds_tied_plain_at .later [] [.data, .data, .pinned] true (true, "778631d2666f4d4dbc68f712c5eacee8e7ce098a3a336136d14bcb98164a4eee") true inverseLoses_row (fun _ h => by cases h) inverseLoses_ca (fun _ h => by cases h) inverseLoses_row_tie rfl ⟨rfl, rfl⟩ inverseLoses_cb rfl
  (fun f fn hf hfn => by
   obtain rfl : f = 8 := Option.some.inj (inverseLoses_ce.symm.trans hf) |>.symm
   obtain rfl : fn = Tryz.f8 := (Option.some.inj (Tryz.func8.symm.trans hfn)).symm
   exact ⟨inverseLoses_cd, fun j t ht => by
    rw [Tryz.params8] at ht
    have hm : t ∈ [35, 5, 5] := by simpa using Array.mem_of_getElem? ht
    have hall : ([35, 5, 5].all fun u => !Tryz.prog.wantsStandIn u) = true := by kernel_rfl
    exact (show Tryz.prog.wantsStandIn t = false by simpa using List.all_eq_true.1 hall t hm)⟩)
  inverseLoses_cc
#print axioms inverseLoses_card
end Go.Proofs.YtlgliddhideflaaGreatDoor

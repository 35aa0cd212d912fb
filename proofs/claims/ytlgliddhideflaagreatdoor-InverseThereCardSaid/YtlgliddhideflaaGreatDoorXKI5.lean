/-
  ablautlaw11.InverseThere is true of every input. Conditions: those of the row's own cells, no other.
-/
import Derived.Test.YtlgliddhideflaaGreatDoorXQI5
set_option linter.all false
set_option maxRecDepth 100000
set_option maxHeartbeats 4000000
namespace Go.Proofs.YtlgliddhideflaaGreatDoor
open Go.RowKit Go.ChangeShapes Go.WideShapes Go.ChangeAt
theorem inverseThere_ca : Rows.inverseThereRow.wfByText (OpenSpec.ofChange Rows.inverseThereSpec) = true := by kernel_rfl
theorem inverseThere_cb : Tryz.pinned.checked.prog.mainIs = some (true, "778631d2666f4d4dbc68f712c5eacee8e7ce098a3a336136d14bcb98164a4eee".toList) := by kernel_rfl
theorem inverseThere_cc : false = Rows.inverseThereRow.goesBy Tryz.pinned.checked.prog := by kernel_rfl
theorem inverseThere_cd : true = Tryz.pinned.checked.prog.looks [] := by kernel_rfl
theorem inverseThere_ce : Tryz.pinned.checked.prog.funcNamed Rows.inverseThereRow.func = some 11 := by kernel_rfl
theorem inverseThere_card : Rows.InverseThereCardSaid :=
 Claim7.holds_tied_plain_at .later [] [.data, .data, .pinned] true (true, "778631d2666f4d4dbc68f712c5eacee8e7ce098a3a336136d14bcb98164a4eee") true inverseThere_row (fun _ h => by cases h) inverseThere_ca (fun _ h => by cases h) inverseThere_row_tie rfl ⟨rfl, rfl⟩ inverseThere_cb rfl
  (fun f fn hf hfn => by
   obtain rfl : f = 11 := Option.some.inj (inverseThere_ce.symm.trans hf) |>.symm
   obtain rfl : fn = Tryz.f11 := (Option.some.inj (Tryz.func11.symm.trans hfn)).symm
   exact ⟨inverseThere_cd, fun j t ht => by
    rw [Tryz.params11] at ht
    have hm : t ∈ [35, 5, 101, 3] := by simpa using Array.mem_of_getElem? ht
    have hall : ([35, 5, 101, 3].all fun u => !Tryz.prog.wantsStandIn u) = true := by kernel_rfl
    exact (show Tryz.prog.wantsStandIn t = false by simpa using List.all_eq_true.1 hall t hm)⟩)
  inverseThere_cc
#print axioms inverseThere_card
end Go.Proofs.YtlgliddhideflaaGreatDoor

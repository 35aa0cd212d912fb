/-
  ablautlaw11.InverseBackAgain is true of every input. Conditions: those of the row's own cells, no other.
-/
import Derived.Test.YtlgliddhideflaaGreatDoorXQI6
set_option linter.all false
set_option maxRecDepth 100000
set_option maxHeartbeats 4000000
namespace Go.Proofs.YtlgliddhideflaaGreatDoor
open Go.RowKit Go.ChangeShapes Go.WideShapes Go.ChangeAt
theorem inverseBackAgain_ca : Rows.inverseBackAgainRow.wfByText (OpenSpec.ofChange Rows.inverseBackAgainSpec) = true := by kernel_rfl
theorem inverseBackAgain_cb : Tryz.pinned.checked.prog.mainIs = some (true, "778631d2666f4d4dbc68f712c5eacee8e7ce098a3a336136d14bcb98164a4eee".toList) := by kernel_rfl
theorem inverseBackAgain_cc : false = Rows.inverseBackAgainRow.goesBy Tryz.pinned.checked.prog := by kernel_rfl
theorem inverseBackAgain_cd : true = Tryz.pinned.checked.prog.looks [] := by kernel_rfl
theorem inverseBackAgain_ce : Tryz.pinned.checked.prog.funcNamed Rows.inverseBackAgainRow.func = some 13 := by kernel_rfl
theorem inverseBackAgain_card : Rows.InverseBackAgainCardSaid :=
 Claim7.holds_tied_plain_at .later [] [.data, .data, .pinned] true (true, "778631d2666f4d4dbc68f712c5eacee8e7ce098a3a336136d14bcb98164a4eee") true inverseBackAgain_row (fun _ h => by cases h) inverseBackAgain_ca (fun _ h => by cases h) inverseBackAgain_row_tie rfl ⟨rfl, rfl⟩ inverseBackAgain_cb rfl
  (fun f fn hf hfn => by
   obtain rfl : f = 13 := Option.some.inj (inverseBackAgain_ce.symm.trans hf) |>.symm
   obtain rfl : fn = Tryz.f13 := (Option.some.inj (Tryz.func13.symm.trans hfn)).symm
   exact ⟨inverseBackAgain_cd, fun j t ht => by
    rw [Tryz.params13] at ht
    have hm : t ∈ [35, 5, 101] := by simpa using Array.mem_of_getElem? ht
    have hall : ([35, 5, 101].all fun u => !Tryz.prog.wantsStandIn u) = true := by kernel_rfl
    exact (show Tryz.prog.wantsStandIn t = false by simpa using List.all_eq_true.1 hall t hm)⟩)
  inverseBackAgain_cc
#print axioms inverseBackAgain_card
end Go.Proofs.YtlgliddhideflaaGreatDoor

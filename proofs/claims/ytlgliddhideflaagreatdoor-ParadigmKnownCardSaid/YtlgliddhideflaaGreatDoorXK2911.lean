/-
  ablautlaw29.ParadigmKnown returns true, and never panics. Conditions: those of the row's own cells, no other.
-/
import Derived.Test.YtlgliddhideflaaGreatDoorXQ2911
set_option linter.all false
set_option maxRecDepth 100000
set_option maxHeartbeats 4000000
namespace Go.Proofs.YtlgliddhideflaaGreatDoor
open Go.RowKit Go.ChangeShapes Go.WideShapes Go.ChangeAt
theorem paradigmKnown_ca : Rows.paradigmKnownRow.wfByText (OpenSpec.ofChange Rows.paradigmKnownSpec) = true := by kernel_rfl
theorem paradigmKnown_cb : Tryz.pinned.checked.prog.mainIs = some (true, "778631d2666f4d4dbc68f712c5eacee8e7ce098a3a336136d14bcb98164a4eee".toList) := by kernel_rfl
theorem paradigmKnown_cc : false = Rows.paradigmKnownRow.goesBy Tryz.pinned.checked.prog := by kernel_rfl
theorem paradigmKnown_cd : true = Tryz.pinned.checked.prog.looks [] := by kernel_rfl
theorem paradigmKnown_ce : Tryz.pinned.checked.prog.funcNamed Rows.paradigmKnownRow.func = some 4 := by kernel_rfl
theorem paradigmKnown_card : Rows.ParadigmKnownCardSaid :=
 Claim7.holds_tied_plain_at .later [] [.data, .data, .pinned] true (true, "778631d2666f4d4dbc68f712c5eacee8e7ce098a3a336136d14bcb98164a4eee") true paradigmKnown_row (fun _ h => by cases h) paradigmKnown_ca (fun _ h => by cases h) paradigmKnown_row_tie rfl ⟨rfl, rfl⟩ paradigmKnown_cb rfl
  (fun f fn hf hfn => by
   obtain rfl : f = 4 := Option.some.inj (paradigmKnown_ce.symm.trans hf) |>.symm
   obtain rfl : fn = Tryz.f4 := (Option.some.inj (Tryz.func4.symm.trans hfn)).symm
   exact ⟨paradigmKnown_cd, fun j t ht => by
    rw [Tryz.params4] at ht
    simp at ht⟩)
  paradigmKnown_cc
#print axioms paradigmKnown_card
end Go.Proofs.YtlgliddhideflaaGreatDoor

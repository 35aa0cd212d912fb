/-
  ablautlaw10.DeriveKnown returns true, and never panics. Conditions: those of the row's own cells, no other.
-/
import Derived.Test.YtlgliddhideflaaGreatDoorXQ101
set_option linter.all false
set_option maxRecDepth 100000
set_option maxHeartbeats 4000000
namespace Go.Proofs.YtlgliddhideflaaGreatDoor
open Go.RowKit Go.ChangeShapes Go.WideShapes Go.ChangeAt
theorem deriveKnown_ca : Rows.deriveKnownRow.wfByText (OpenSpec.ofChange Rows.deriveKnownSpec) = true := by kernel_rfl
theorem deriveKnown_cb : Tryz.pinned.checked.prog.mainIs = some (true, "778631d2666f4d4dbc68f712c5eacee8e7ce098a3a336136d14bcb98164a4eee".toList) := by kernel_rfl
theorem deriveKnown_cc : false = Rows.deriveKnownRow.goesBy Tryz.pinned.checked.prog := by kernel_rfl
theorem deriveKnown_cd : true = Tryz.pinned.checked.prog.looks [] := by kernel_rfl
theorem deriveKnown_ce : Tryz.pinned.checked.prog.funcNamed Rows.deriveKnownRow.func = some 3 := by kernel_rfl
theorem deriveKnown_card : Rows.DeriveKnownCardSaid :=
 Claim7.holds_tied_plain_at .later [] [.data, .data, .pinned] true (true, "778631d2666f4d4dbc68f712c5eacee8e7ce098a3a336136d14bcb98164a4eee") true deriveKnown_row (fun _ h => by cases h) deriveKnown_ca (fun _ h => by cases h) deriveKnown_row_tie rfl ⟨rfl, rfl⟩ deriveKnown_cb rfl
  (fun f fn hf hfn => by
   obtain rfl : f = 3 := Option.some.inj (deriveKnown_ce.symm.trans hf) |>.symm
   obtain rfl : fn = Tryz.f3 := (Option.some.inj (Tryz.func3.symm.trans hfn)).symm
   exact ⟨deriveKnown_cd, fun j t ht => by
    rw [Tryz.params3] at ht
    simp at ht⟩)
  deriveKnown_cc
#print axioms deriveKnown_card
end Go.Proofs.YtlgliddhideflaaGreatDoor

/-
  ablautlaw38.WaveKnown returns true, and never panics. Conditions: those of the row's own cells, no other.
-/
import Derived.Test.YtaglfmlgbcmakaaGreatDoorXQ38C
set_option linter.all false
set_option maxRecDepth 100000
set_option maxHeartbeats 4000000
namespace Go.Proofs.YtaglfmlgbcmakaaGreatDoor
open Go.RowKit Go.ChangeShapes Go.WideShapes Go.ChangeAt
theorem waveKnown_ca : Rows.waveKnownRow.wfByText (OpenSpec.ofChange Rows.waveKnownSpec) = true := by kernel_rfl
theorem waveKnown_cb : Tryz.pinned.checked.prog.mainIs = some (true, "f30b30b9fc6bb646518b976e08faf1646f838a3b877a094890f96f3870e486ac".toList) := by kernel_rfl
theorem waveKnown_cc : false = Rows.waveKnownRow.goesBy Tryz.pinned.checked.prog := by kernel_rfl
theorem waveKnown_cd : true = Tryz.pinned.checked.prog.looks [] := by kernel_rfl
theorem waveKnown_ce : Tryz.pinned.checked.prog.funcNamed Rows.waveKnownRow.func = some 14 := by kernel_rfl
theorem waveKnown_card : Rows.WaveKnownCardSaid :=
 Claim7.holds_tied_plain_at .later [] [.data, .data, .pinned] true (true, "f30b30b9fc6bb646518b976e08faf1646f838a3b877a094890f96f3870e486ac") true waveKnown_row (fun _ h => by cases h) waveKnown_ca (fun _ h => by cases h) waveKnown_row_tie rfl ⟨rfl, rfl⟩ waveKnown_cb rfl
  (fun f fn hf hfn => by
   obtain rfl : f = 14 := Option.some.inj (waveKnown_ce.symm.trans hf) |>.symm
   obtain rfl : fn = Tryz.f14 := (Option.some.inj (Tryz.func14.symm.trans hfn)).symm
   exact ⟨waveKnown_cd, fun j t ht => by
    rw [Tryz.params14] at ht
    simp at ht⟩)
  waveKnown_cc
#print axioms waveKnown_card
end Go.Proofs.YtaglfmlgbcmakaaGreatDoor

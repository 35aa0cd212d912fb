/-
  ablautlaw29.ParadigmAgain returns true for every input, and never panics. Conditions: those of the row's own cells, no other.
-/
import Derived.Test.YtcpcojgmmpnkoaaGreatDoorXT297
import Derived.Test.YtcpcojgmmpnkoaaGreatDoorG51
import Derived.Test.YtcpcojgmmpnkoaaGreatDoorTie
set_option linter.all false
set_option maxRecDepth 100000
set_option maxHeartbeats 4000000
namespace Go.Proofs.YtcpcojgmmpnkoaaGreatDoor
open Go.RowKit Go.ChangeShapes Go.WideShapes Go.ChangeAt
theorem paradigmAgain_lifted (os : Os) (started : os.Started) (H : Type) (enc : TypeId × Value → H) :
  ReturnsInHanded {} Tryz.checked os 10 .any (fun w args => (Rows.paradigmAgainSpec.pre enc Tryz.prog Tryz.f10 [] false w args ∧ laidMetH Tryz.prog laid3 w) ∧ sizedMet enc Tryz.prog Tryz.f10 (OpenSpec.ofChange Rows.paradigmAgainSpec) false w args)
   (Rows.paradigmAgainSpec.post enc Tryz.prog Tryz.f10 false true false false) := by
 refine returnsInHanded_of_change_and (C := Tryz.checked) (X := fun w _ => laidMetH Tryz.prog laid3 w) (fun _ _ _ hh h => h.of_heap hh) own_knob started (by kernel_rfl) Tryz.func10
  (ChangeSpec.witness_shaped (enc := enc) (C := Tryz.checked) (os := os) (X := fun w _ => laidMetH Tryz.prog laid3 w) false (World.laidAll Tryz.prog os laid3) #[.slice none 0 0] 8 (World.laidAll_os _ _ _)
   (World.shaped_of_ZipB (by kernel_rfl) (by kernel_rfl)) (by kernel_rfl) (by kernel_rfl) (by kernel_rfl)
   (by rw [MakeChecks.laidMetH_plain _ _ _ (by kernel_rfl)]; exact laidMet_laidAll _ (by kernel_rfl) (by kernel_rfl))) ?_
 intro W base args ds gs before hval0 hW _ _ hL _
 have hval : ∀ (j : Nat) t v, Tryz.f10.params[j]? = some t → args[j]? = some v → Value.okWide Tryz.prog W .any base t v := hval0
 have hW' := hW
 obtain ⟨p, q, hA0, hV, rfl, _, _⟩ := hW
 have hA : DataW.TrodAll enc Tryz.prog W 0 (fun _ => true) true Tryz.f10.params.toList args.toList ds p := hA0
 rw [Tryz.params10] at hA hval
 obtain ⟨v0, d0, rfl, rfl, h0⟩ := trodAll_one hA
 obtain ⟨rfl, rfl⟩ := trodVars_none hV
 obtain ⟨A0, n0, c0, rfl⟩ := okWide_slice Tryz.underlying102 (hval 0 102 v0 rfl rfl)
 clear hA0 hval0
 simp only [List.append_nil] at hW'
 have hlt : ∀ x ∈ p, x.block < W.heap.size := fun x hx => by simpa using hW'.lt x (by simpa using hx)
 obtain ⟨xs0, hx0⟩ := open_nums h0
 refine (parAgain_c _ _ _ xs0 W hx0 (tab_of_laid hL)).mono fun e W' ⟨he, hb⟩ => ?_
 subst he
 have harg0 := Below.trod laid_out (by kernel_rfl) (of_decide_eq_true (by kernel_rfl)) h0 hb (fun x hx => hlt x hx)
 exact ⟨_, rfl, _, _, _, [], _, [], hW', trodAll_mk1 (shut_bool Tryz.underlying4 _), trodAll_mk1 harg0, rfl, hb.frame _, fun h => by cases h⟩
theorem paradigmAgain_ra : Tryz.pinned.checked.prog.funcNamed Rows.paradigmAgainRow.func = some 10 := by kernel_rfl
theorem paradigmAgain_k10 : (Rows.paradigmAgainRow.inPlace == Program.inPlace Tryz.pinned.checked.prog 10) = true := by kernel_rfl
theorem paradigmAgain_k11 : (Rows.paradigmAgainRow.unfollowed == Program.unfollowed Tryz.pinned.checked.prog 10) = true := by kernel_rfl
theorem paradigmAgain_k12 : (Rows.paradigmAgainRow.recurses == Program.recurses Tryz.pinned.checked.prog 10) = true := by kernel_rfl
theorem paradigmAgain_k13 : (Rows.paradigmAgainRow.named == Program.varsNamed Tryz.pinned.checked.prog 10) = true := by kernel_rfl
theorem paradigmAgain_k26 : (Rows.paradigmAgainRow.lifted == Program.liftsFinal Tryz.pinned.checked.prog) = true := by kernel_rfl
theorem paradigmAgain_k27 : (Rows.paradigmAgainRow.plainKeys == Program.plainKeys Tryz.pinned.checked.prog) = true := by kernel_rfl
theorem paradigmAgain_rb : joinedFacts Tryz.pinned.checked.prog 10 Tryz.f10 Rows.paradigmAgainSpec Rows.paradigmAgainRow = true := by
 unfold joinedFacts
 rw [paradigmAgain_k10, paradigmAgain_k11, paradigmAgain_k12, paradigmAgain_k13, paradigmAgain_k26, paradigmAgain_k27, seat_k2, seat_k3, seat_k24, seat_k25]
 kernel_rfl
theorem paradigmAgain_rc : Func.isInstance Tryz.pinned.checked.prog Tryz.f10 Rows.paradigmAgainRow.origin Rows.paradigmAgainRow.targs := of_decide_eq_true (by kernel_rfl)
theorem paradigmAgain_rd : Func.isWrapper Tryz.pinned.checked.prog Tryz.f10 Rows.paradigmAgainRow.wrapper Rows.paradigmAgainRow.mainSum := by unfold Func.isWrapper; first | (rw [if_pos (by decide +kernel)]; kernel_rfl) | (rw [if_neg (by decide +kernel)]; exact ⟨rfl, rfl⟩)
theorem paradigmAgain_row : Rows.ParadigmAgainSaid :=
 OpenClaim.holds_of_wide 10 Tryz.f10 rfl rfl rfl rfl rfl rfl rfl ⟨rfl, rfl, rfl, rfl, rfl⟩ rfl rfl rfl rfl rfl paradigmAgain_ra Tryz.func10 paradigmAgain_rb
  paradigmAgain_rc paradigmAgain_rd
  (fun os started H enc _ => paradigmAgain_lifted os started H enc)
end Go.Proofs.YtcpcojgmmpnkoaaGreatDoor

/-
  ablautlaw29.ParadigmBuilds returns true for every input, and never panics. Conditions: those of the row's own cells, no other.
-/
import Derived.Test.YtcpcojgmmpnkoaaGreatDoorXT295
import Derived.Test.YtcpcojgmmpnkoaaGreatDoorG68
import Derived.Test.YtcpcojgmmpnkoaaGreatDoorG53
import Derived.Test.YtcpcojgmmpnkoaaGreatDoorG20
import Derived.Test.YtcpcojgmmpnkoaaGreatDoorG51
import Derived.Test.YtcpcojgmmpnkoaaGreatDoorCards
import Derived.Test.YtcpcojgmmpnkoaaGreatDoorTie
set_option linter.unusedVariables false
set_option linter.unusedSimpArgs false
set_option maxRecDepth 100000
set_option maxHeartbeats 4000000
namespace Go.Proofs.YtcpcojgmmpnkoaaGreatDoor
open Go.RowKit Go.ChangeShapes Go.WideShapes Go.ChangeAt
theorem paradigmBuilds_lifted (os : Os) (started : os.Started) (H : Type) (enc : TypeId × Value → H) :
  ReturnsInHanded {} Tryz.checked os 8 .any (fun w args => (Rows.paradigmBuildsSpec.pre enc Tryz.prog Tryz.f8 [] false w args ∧ laidMetH Tryz.prog laid3 w) ∧ sizedMet enc Tryz.prog Tryz.f8 (OpenSpec.ofChange Rows.paradigmBuildsSpec) false w args)
   (Rows.paradigmBuildsSpec.post enc Tryz.prog Tryz.f8 false true false false) := by
 refine returnsInHanded_of_change_and (C := Tryz.checked) (X := fun w _ => laidMetH Tryz.prog laid3 w) (fun _ _ _ hh h => h.of_heap hh) own_knob started (by kernel_rfl) Tryz.func8
  (ChangeSpec.witness_shaped (enc := enc) (C := Tryz.checked) (os := os) (X := fun w _ => laidMetH Tryz.prog laid3 w) false (World.laidAll Tryz.prog os laid3) #[.slice none 0 0, .slice none 0 0] 8 (World.laidAll_os _ _ _)
   (World.shaped_of_ZipB (by kernel_rfl) (by kernel_rfl)) (by kernel_rfl) (by kernel_rfl) (by kernel_rfl)
   (by rw [MakeChecks.laidMetH_plain _ _ _ (by kernel_rfl)]; exact laidMet_laidAll _ (by kernel_rfl) (by kernel_rfl))) ?_
 intro W base args ds gs before hval0 hW _ _ hL _
 have hval : ∀ (j : Nat) t v, Tryz.f8.params[j]? = some t → args[j]? = some v → Value.okWide Tryz.prog W .any base t v := hval0
 have hW' := hW
 obtain ⟨p, q, hA0, hV, rfl, _, _⟩ := hW
 have hA : DataW.TrodAll enc Tryz.prog W 0 (fun _ => true) true Tryz.f8.params.toList args.toList ds p := hA0
 rw [Tryz.params8] at hA hval
 obtain ⟨v0, v1, d0, d1, p0, p1, rfl, rfl, rfl, h0, h1⟩ := trodAll_two hA
 obtain ⟨rfl, rfl⟩ := trodVars_none hV
 obtain ⟨A0, n0, c0, rfl⟩ := okWide_slice Tryz.underlying46 (hval 0 46 v0 rfl rfl)
 obtain ⟨A1, n1, c1, rfl⟩ := okWide_slice Tryz.underlying66 (hval 1 66 v1 rfl rfl)
 clear hA0 hval0
 simp only [List.append_nil] at hW'
 have hlt : ∀ x ∈ p0 ++ p1, x.block < W.heap.size := fun x hx => by simpa using hW'.lt x (by simpa using hx)
 obtain ⟨xs0, hx0⟩ := open_wordsU h0
 obtain ⟨xs1, hx1⟩ := open_parU h1
 refine (parBuilds_c _ _ _ xs0 _ _ _ xs1 W hx0 hx1 (tab_of_laid hL)).mono fun e W' ⟨he, hb⟩ => ?_
 subst he
 have harg0 := Below.trod laid_out (by kernel_rfl) (of_decide_eq_true (by kernel_rfl)) h0 hb (fun x hx => hlt x (List.mem_append.2 (.inl hx)))
 have harg1 := Below.trod laid_out (by kernel_rfl) (of_decide_eq_true (by kernel_rfl)) h1 hb (fun x hx => hlt x (List.mem_append.2 (.inr hx)))
 exact ⟨_, rfl, _, _, _, [], _, [], hW', trodAll_mk1 (shut_bool Tryz.underlying4 _), trodAll_mk2 harg0 harg1, rfl, hb.frame _, fun h => by cases h⟩
theorem paradigmBuilds_ra : Tryz.pinned.checked.prog.funcNamed Rows.paradigmBuildsRow.func = some 8 := by kernel_rfl
theorem paradigmBuilds_k10 : (Rows.paradigmBuildsRow.inPlace == Program.inPlace Tryz.pinned.checked.prog 8) = true := by kernel_rfl
theorem paradigmBuilds_k11 : (Rows.paradigmBuildsRow.unfollowed == Program.unfollowed Tryz.pinned.checked.prog 8) = true := by kernel_rfl
theorem paradigmBuilds_k12 : (Rows.paradigmBuildsRow.recurses == Program.recurses Tryz.pinned.checked.prog 8) = true := by kernel_rfl
theorem paradigmBuilds_k13 : (Rows.paradigmBuildsRow.named == Program.varsNamed Tryz.pinned.checked.prog 8) = true := by kernel_rfl
theorem paradigmBuilds_k26 : (Rows.paradigmBuildsRow.lifted == Program.liftsFinal Tryz.pinned.checked.prog) = true := by kernel_rfl
theorem paradigmBuilds_k27 : (Rows.paradigmBuildsRow.plainKeys == Program.plainKeys Tryz.pinned.checked.prog) = true := by kernel_rfl
theorem paradigmBuilds_rb : joinedFacts Tryz.pinned.checked.prog 8 Tryz.f8 Rows.paradigmBuildsSpec Rows.paradigmBuildsRow = true := by
 unfold joinedFacts
 rw [paradigmBuilds_k10, paradigmBuilds_k11, paradigmBuilds_k12, paradigmBuilds_k13, paradigmBuilds_k26, paradigmBuilds_k27, seat_k2, seat_k3, seat_k24, seat_k25]
 kernel_rfl
theorem paradigmBuilds_rc : Func.isInstance Tryz.pinned.checked.prog Tryz.f8 Rows.paradigmBuildsRow.origin Rows.paradigmBuildsRow.targs := of_decide_eq_true (by kernel_rfl)
theorem paradigmBuilds_rd : Func.isWrapper Tryz.pinned.checked.prog Tryz.f8 Rows.paradigmBuildsRow.wrapper Rows.paradigmBuildsRow.mainSum := by unfold Func.isWrapper; first | (rw [if_pos (by decide +kernel)]; kernel_rfl) | (rw [if_neg (by decide +kernel)]; exact ⟨rfl, rfl⟩)
theorem paradigmBuilds_row : Rows.ParadigmBuildsSaid :=
 OpenClaim.holds_of_wide 8 Tryz.f8 rfl rfl rfl rfl rfl rfl rfl ⟨rfl, rfl, rfl, rfl, rfl⟩ rfl rfl rfl rfl rfl paradigmBuilds_ra Tryz.func8 paradigmBuilds_rb
  paradigmBuilds_rc paradigmBuilds_rd
  (fun os started H enc _ => paradigmBuilds_lifted os started H enc)
end Go.Proofs.YtcpcojgmmpnkoaaGreatDoor

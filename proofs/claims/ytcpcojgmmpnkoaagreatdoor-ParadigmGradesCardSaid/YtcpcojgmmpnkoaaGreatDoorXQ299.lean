/-
  ablautlaw29.ParadigmGrades returns true for every input, and never panics. Conditions: those of the row's own cells, no other.
-/
import Derived.Test.YtcpcojgmmpnkoaaGreatDoorXT299
import Derived.Test.YtcpcojgmmpnkoaaGreatDoorG51
import Derived.Test.YtcpcojgmmpnkoaaGreatDoorTie
set_option linter.all false
set_option maxRecDepth 100000
set_option maxHeartbeats 4000000
namespace Go.Proofs.YtcpcojgmmpnkoaaGreatDoor
open Go.RowKit Go.ChangeShapes Go.WideShapes Go.ChangeAt
theorem paradigmGrades_lifted (os : Os) (started : os.Started) (H : Type) (enc : TypeId × Value → H) :
  ReturnsInHanded {} Tryz.checked os 12 .any (fun w args => (Rows.paradigmGradesSpec.pre enc Tryz.prog Tryz.f12 [] false w args ∧ laidMetH Tryz.prog laid3 w) ∧ sizedMet enc Tryz.prog Tryz.f12 (OpenSpec.ofChange Rows.paradigmGradesSpec) false w args)
   (Rows.paradigmGradesSpec.post enc Tryz.prog Tryz.f12 false true false false) := by
 refine returnsInHanded_of_change_and (C := Tryz.checked) (X := fun w _ => laidMetH Tryz.prog laid3 w) (fun _ _ _ hh h => h.of_heap hh) own_knob started (by kernel_rfl) Tryz.func12
  (ChangeSpec.witness_shaped (enc := enc) (C := Tryz.checked) (os := os) (X := fun w _ => laidMetH Tryz.prog laid3 w) false (World.laidAll Tryz.prog os laid3) #[.slice none 0 0, .int .u8 0] 8 (World.laidAll_os _ _ _)
   (World.shaped_of_ZipB (by kernel_rfl) (by kernel_rfl)) (by kernel_rfl) (by kernel_rfl) (by kernel_rfl)
   (by rw [MakeChecks.laidMetH_plain _ _ _ (by kernel_rfl)]; exact laidMet_laidAll _ (by kernel_rfl) (by kernel_rfl))) ?_
 intro W base args ds gs before hval0 hW _ _ hL _
 have hval : ∀ (j : Nat) t v, Tryz.f12.params[j]? = some t → args[j]? = some v → Value.okWide Tryz.prog W .any base t v := hval0
 have hW' := hW
 obtain ⟨p, q, hA0, hV, rfl, _, _⟩ := hW
 have hA : DataW.TrodAll enc Tryz.prog W 0 (fun _ => true) true Tryz.f12.params.toList args.toList ds p := hA0
 rw [Tryz.params12] at hA hval
 obtain ⟨v0, v1, d0, d1, p0, p1, rfl, rfl, rfl, h0, h1⟩ := trodAll_two hA
 obtain ⟨rfl, rfl⟩ := trodVars_none hV
 obtain ⟨A0, n0, c0, rfl⟩ := okWide_slice Tryz.underlying102 (hval 0 102 v0 rfl rfl)
 obtain ⟨a1, rfl, rfl, rfl, wa1⟩ := open_int Tryz.underlying5 (hval 1 5 v1 rfl rfl) h1
 obtain ⟨lo1, hi1⟩ := u8_within wa1
 clear hA0 hval0
 simp only [List.append_nil] at hW'
 have hlt : ∀ x ∈ p0 ++ [], x.block < W.heap.size := fun x hx => by simpa using hW'.lt x (by simpa using hx)
 obtain ⟨xs0, hx0⟩ := open_nums h0
 refine (parGrades_c _ _ _ xs0 a1 lo1 hi1 W hx0 (tab_of_laid hL)).mono fun e W' ⟨he, hb⟩ => ?_
 subst he
 have harg0 := Below.trod laid_out (by kernel_rfl) (of_decide_eq_true (by kernel_rfl)) h0 hb (fun x hx => hlt x (List.mem_append.2 (.inl hx)))
 have harg1 := Below.trod laid_out (by kernel_rfl) (of_decide_eq_true (by kernel_rfl)) h1 hb (fun x hx => hlt x (List.mem_append.2 (.inr hx)))
 exact ⟨_, rfl, _, _, _, [], _, [], hW', trodAll_mk1 (shut_bool Tryz.underlying4 _), trodAll_mk2 harg0 harg1, rfl, hb.frame _, fun h => by cases h⟩
theorem paradigmGrades_ra : Tryz.pinned.checked.prog.funcNamed Rows.paradigmGradesRow.func = some 12 := by kernel_rfl
theorem paradigmGrades_k10 : (Rows.paradigmGradesRow.inPlace == Program.inPlace Tryz.pinned.checked.prog 12) = true := by kernel_rfl
theorem paradigmGrades_k11 : (Rows.paradigmGradesRow.unfollowed == Program.unfollowed Tryz.pinned.checked.prog 12) = true := by kernel_rfl
theorem paradigmGrades_k12 : (Rows.paradigmGradesRow.recurses == Program.recurses Tryz.pinned.checked.prog 12) = true := by kernel_rfl
theorem paradigmGrades_k13 : (Rows.paradigmGradesRow.named == Program.varsNamed Tryz.pinned.checked.prog 12) = true := by kernel_rfl
theorem paradigmGrades_k26 : (Rows.paradigmGradesRow.lifted == Program.liftsFinal Tryz.pinned.checked.prog) = true := by kernel_rfl
theorem paradigmGrades_k27 : (Rows.paradigmGradesRow.plainKeys == Program.plainKeys Tryz.pinned.checked.prog) = true := by kernel_rfl
theorem paradigmGrades_rb : joinedFacts Tryz.pinned.checked.prog 12 Tryz.f12 Rows.paradigmGradesSpec Rows.paradigmGradesRow = true := by
 unfold joinedFacts
 rw [paradigmGrades_k10, paradigmGrades_k11, paradigmGrades_k12, paradigmGrades_k13, paradigmGrades_k26, paradigmGrades_k27, seat_k2, seat_k3, seat_k24, seat_k25]
 kernel_rfl
theorem paradigmGrades_rc : Func.isInstance Tryz.pinned.checked.prog Tryz.f12 Rows.paradigmGradesRow.origin Rows.paradigmGradesRow.targs := of_decide_eq_true (by kernel_rfl)
theorem paradigmGrades_rd : Func.isWrapper Tryz.pinned.checked.prog Tryz.f12 Rows.paradigmGradesRow.wrapper Rows.paradigmGradesRow.mainSum := by unfold Func.isWrapper; first | (rw [if_pos (by decide +kernel)]; kernel_rfl) | (rw [if_neg (by decide +kernel)]; exact ⟨rfl, rfl⟩)
theorem paradigmGrades_row : Rows.ParadigmGradesSaid :=
 OpenClaim.holds_of_wide 12 Tryz.f12 rfl rfl rfl rfl rfl rfl rfl ⟨rfl, rfl, rfl, rfl, rfl⟩ rfl rfl rfl rfl rfl paradigmGrades_ra Tryz.func12 paradigmGrades_rb
  paradigmGrades_rc paradigmGrades_rd
  (fun os started H enc _ => paradigmGrades_lifted os started H enc)
end Go.Proofs.YtcpcojgmmpnkoaaGreatDoor

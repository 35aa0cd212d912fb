/-
  ablautlaw10.DeriveKnown returns true, and never panics. Conditions: those of the row's own cells, no other.
-/
import Derived.Test.YtlgliddhideflaaGreatDoorXT101
import Derived.Test.YtlgliddhideflaaGreatDoorG51
import Derived.Test.YtlgliddhideflaaGreatDoorTie
set_option linter.all false
set_option maxRecDepth 100000
set_option maxHeartbeats 4000000
namespace Go.Proofs.YtlgliddhideflaaGreatDoor
open Go.RowKit Go.ChangeShapes Go.WideShapes Go.ChangeAt
theorem deriveKnown_lifted (os : Os) (started : os.Started) (H : Type) (enc : TypeId × Value → H) :
  ReturnsInHanded {} Tryz.checked os 3 .any (fun w args => (Rows.deriveKnownSpec.pre enc Tryz.prog Tryz.f3 [] false w args ∧ laidMetH Tryz.prog laid3 w) ∧ sizedMet enc Tryz.prog Tryz.f3 (OpenSpec.ofChange Rows.deriveKnownSpec) false w args)
   (Rows.deriveKnownSpec.post enc Tryz.prog Tryz.f3 false true false false) := by
 refine returnsInHanded_of_change_and (C := Tryz.checked) (X := fun w _ => laidMetH Tryz.prog laid3 w) (fun _ _ _ hh h => h.of_heap hh) own_knob started (by kernel_rfl) Tryz.func3
  (ChangeSpec.witness_shaped (enc := enc) (C := Tryz.checked) (os := os) (X := fun w _ => laidMetH Tryz.prog laid3 w) false (World.laidAll Tryz.prog os laid3) #[] 8 (World.laidAll_os _ _ _)
   (World.shaped_of_ZipB (by kernel_rfl) (by kernel_rfl)) (by kernel_rfl) (by kernel_rfl) (by kernel_rfl)
   (by rw [MakeChecks.laidMetH_plain _ _ _ (by kernel_rfl)]; exact laidMet_laidAll _ (by kernel_rfl) (by kernel_rfl))) ?_
 intro W base args ds gs before hval0 hW _ _ hL _
 have hval : ∀ (j : Nat) t v, Tryz.f3.params[j]? = some t → args[j]? = some v → Value.okWide Tryz.prog W .any base t v := hval0
 have hW' := hW
 obtain ⟨p, q, hA0, hV, rfl, _, _⟩ := hW
 have hA : DataW.TrodAll enc Tryz.prog W 0 (fun _ => true) true Tryz.f3.params.toList args.toList ds p := hA0
 rw [Tryz.params3] at hA hval
 obtain ⟨hargs, rfl, rfl⟩ := trodAll_nil hA
 obtain rfl : args = #[] := by cases args; simp_all
 obtain ⟨rfl, rfl⟩ := trodVars_none hV
 clear hA0 hval0
 simp only [List.append_nil] at hW'
 refine (deriveKnown_c  W  (tab_of_laid hL)).mono fun e W' ⟨he, hb⟩ => ?_
 subst he
 exact ⟨_, rfl, _, _, _, [], _, [], hW', trodAll_mk1 (shut_bool Tryz.underlying4 _), trodAll_mk0, rfl, hb.frame _, fun h => by cases h⟩
theorem deriveKnown_ra : Tryz.pinned.checked.prog.funcNamed Rows.deriveKnownRow.func = some 3 := by kernel_rfl
theorem deriveKnown_k10 : (Rows.deriveKnownRow.inPlace == Program.inPlace Tryz.pinned.checked.prog 3) = true := by kernel_rfl
theorem deriveKnown_k11 : (Rows.deriveKnownRow.unfollowed == Program.unfollowed Tryz.pinned.checked.prog 3) = true := by kernel_rfl
theorem deriveKnown_k12 : (Rows.deriveKnownRow.recurses == Program.recurses Tryz.pinned.checked.prog 3) = true := by kernel_rfl
theorem deriveKnown_k13 : (Rows.deriveKnownRow.named == Program.varsNamed Tryz.pinned.checked.prog 3) = true := by kernel_rfl
theorem deriveKnown_k26 : (Rows.deriveKnownRow.lifted == Program.liftsFinal Tryz.pinned.checked.prog) = true := by kernel_rfl
theorem deriveKnown_k27 : (Rows.deriveKnownRow.plainKeys == Program.plainKeys Tryz.pinned.checked.prog) = true := by kernel_rfl
theorem deriveKnown_rb : joinedFacts Tryz.pinned.checked.prog 3 Tryz.f3 Rows.deriveKnownSpec Rows.deriveKnownRow = true := by
 unfold joinedFacts
 rw [deriveKnown_k10, deriveKnown_k11, deriveKnown_k12, deriveKnown_k13, deriveKnown_k26, deriveKnown_k27, seat_k2, seat_k3, seat_k24, seat_k25]
 kernel_rfl
theorem deriveKnown_rc : Func.isInstance Tryz.pinned.checked.prog Tryz.f3 Rows.deriveKnownRow.origin Rows.deriveKnownRow.targs := of_decide_eq_true (by kernel_rfl)
theorem deriveKnown_rd : Func.isWrapper Tryz.pinned.checked.prog Tryz.f3 Rows.deriveKnownRow.wrapper Rows.deriveKnownRow.mainSum := by unfold Func.isWrapper; first | (rw [if_pos (by decide +kernel)]; kernel_rfl) | (rw [if_neg (by decide +kernel)]; exact ⟨rfl, rfl⟩)
theorem deriveKnown_row : Rows.DeriveKnownSaid :=
 OpenClaim.holds_of_wide 3 Tryz.f3 rfl rfl rfl rfl rfl rfl rfl ⟨rfl, rfl, rfl, rfl, rfl⟩ rfl rfl rfl rfl rfl deriveKnown_ra Tryz.func3 deriveKnown_rb
  deriveKnown_rc deriveKnown_rd
  (fun os started H enc _ => deriveKnown_lifted os started H enc)
end Go.Proofs.YtlgliddhideflaaGreatDoor

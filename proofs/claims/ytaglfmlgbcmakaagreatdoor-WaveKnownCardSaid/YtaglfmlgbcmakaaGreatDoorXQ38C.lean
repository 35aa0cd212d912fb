/-
  ablautlaw38.WaveKnown returns true, and never panics. Conditions: those of the row's own cells, no other.
-/
import Derived.Test.YtaglfmlgbcmakaaGreatDoorXT38C
import Derived.Test.YtaglfmlgbcmakaaGreatDoorG51
import Derived.Test.YtaglfmlgbcmakaaGreatDoorTie
set_option linter.all false
set_option maxRecDepth 100000
set_option maxHeartbeats 4000000
namespace Go.Proofs.YtaglfmlgbcmakaaGreatDoor
open Go.RowKit Go.ChangeShapes Go.WideShapes Go.ChangeAt
theorem waveKnown_lifted (os : Os) (started : os.Started) (H : Type) (enc : TypeId × Value → H) :
  ReturnsInHanded {} Tryz.checked os 14 .any (fun w args => (Rows.waveKnownSpec.pre enc Tryz.prog Tryz.f14 [] false w args ∧ laidMetH Tryz.prog laid3 w) ∧ sizedMet enc Tryz.prog Tryz.f14 (OpenSpec.ofChange Rows.waveKnownSpec) false w args)
   (Rows.waveKnownSpec.post enc Tryz.prog Tryz.f14 false true false false) := by
 refine returnsInHanded_of_change_and (C := Tryz.checked) (X := fun w _ => laidMetH Tryz.prog laid3 w) (fun _ _ _ hh h => h.of_heap hh) own_knob started (by kernel_rfl) Tryz.func14
  (ChangeSpec.witness_shaped (enc := enc) (C := Tryz.checked) (os := os) (X := fun w _ => laidMetH Tryz.prog laid3 w) false (World.laidAll Tryz.prog os laid3) #[] 8 (World.laidAll_os _ _ _)
   (World.shaped_of_ZipB (by kernel_rfl) (by kernel_rfl)) (by kernel_rfl) (by kernel_rfl) (by kernel_rfl)
   (by rw [MakeChecks.laidMetH_plain _ _ _ (by kernel_rfl)]; exact laidMet_laidAll _ (by kernel_rfl) (by kernel_rfl))) ?_
 intro W base args ds gs before hval0 hW _ _ hL _
 have hval : ∀ (j : Nat) t v, Tryz.f14.params[j]? = some t → args[j]? = some v → Value.okWide Tryz.prog W .any base t v := hval0
 have hW' := hW
 obtain ⟨p, q, hA0, hV, rfl, _, _⟩ := hW
 have hA : DataW.TrodAll enc Tryz.prog W 0 (fun _ => true) true Tryz.f14.params.toList args.toList ds p := hA0
 rw [Tryz.params14] at hA hval
 obtain ⟨hargs, rfl, rfl⟩ := trodAll_nil hA
 obtain rfl : args = #[] := by cases args; simp_all
 obtain ⟨rfl, rfl⟩ := trodVars_none hV
 clear hA0 hval0
 simp only [List.append_nil] at hW'
 refine (waveKnown_c  W  (tab_of_laid hL)).mono fun e W' ⟨he, hb⟩ => ?_
 subst he
 exact ⟨_, rfl, _, _, _, [], _, [], hW', trodAll_mk1 (shut_bool Tryz.underlying4 _), trodAll_mk0, rfl, hb.frame _, fun h => by cases h⟩
theorem waveKnown_ra : Tryz.pinned.checked.prog.funcNamed Rows.waveKnownRow.func = some 14 := by kernel_rfl
theorem waveKnown_k10 : (Rows.waveKnownRow.inPlace == Program.inPlace Tryz.pinned.checked.prog 14) = true := by kernel_rfl
theorem waveKnown_k11 : (Rows.waveKnownRow.unfollowed == Program.unfollowed Tryz.pinned.checked.prog 14) = true := by kernel_rfl
theorem waveKnown_k12 : (Rows.waveKnownRow.recurses == Program.recurses Tryz.pinned.checked.prog 14) = true := by kernel_rfl
theorem waveKnown_k13 : (Rows.waveKnownRow.named == Program.varsNamed Tryz.pinned.checked.prog 14) = true := by kernel_rfl
theorem waveKnown_k26 : (Rows.waveKnownRow.lifted == Program.liftsFinal Tryz.pinned.checked.prog) = true := by kernel_rfl
theorem waveKnown_k27 : (Rows.waveKnownRow.plainKeys == Program.plainKeys Tryz.pinned.checked.prog) = true := by kernel_rfl
theorem waveKnown_rb : joinedFacts Tryz.pinned.checked.prog 14 Tryz.f14 Rows.waveKnownSpec Rows.waveKnownRow = true := by
 unfold joinedFacts
 rw [waveKnown_k10, waveKnown_k11, waveKnown_k12, waveKnown_k13, waveKnown_k26, waveKnown_k27, seat_k2, seat_k3, seat_k24, seat_k25]
 kernel_rfl
theorem waveKnown_rc : Func.isInstance Tryz.pinned.checked.prog Tryz.f14 Rows.waveKnownRow.origin Rows.waveKnownRow.targs := of_decide_eq_true (by kernel_rfl)
theorem waveKnown_rd : Func.isWrapper Tryz.pinned.checked.prog Tryz.f14 Rows.waveKnownRow.wrapper Rows.waveKnownRow.mainSum := by unfold Func.isWrapper; first | (rw [if_pos (by decide +kernel)]; kernel_rfl) | (rw [if_neg (by decide +kernel)]; exact ⟨rfl, rfl⟩)
theorem waveKnown_row : Rows.WaveKnownSaid :=
 OpenClaim.holds_of_wide 14 Tryz.f14 rfl rfl rfl rfl rfl rfl rfl ⟨rfl, rfl, rfl, rfl, rfl⟩ rfl rfl rfl rfl rfl waveKnown_ra Tryz.func14 waveKnown_rb
  waveKnown_rc waveKnown_rd
  (fun os started H enc _ => waveKnown_lifted os started H enc)
end Go.Proofs.YtaglfmlgbcmakaaGreatDoor

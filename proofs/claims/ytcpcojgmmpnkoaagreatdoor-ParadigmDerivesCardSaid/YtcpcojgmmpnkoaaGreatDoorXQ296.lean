/-
  ablautlaw29.ParadigmDerives returns true for every input, and never panics. Conditions: those of the row's own cells, no other.
-/
import Derived.Test.YtcpcojgmmpnkoaaGreatDoorXT296
import Derived.Test.YtcpcojgmmpnkoaaGreatDoorG29
import Derived.Test.YtcpcojgmmpnkoaaGreatDoorG51
import Derived.Test.YtcpcojgmmpnkoaaGreatDoorTie
set_option linter.all false
set_option maxRecDepth 100000
set_option maxHeartbeats 4000000
namespace Go.Proofs.YtcpcojgmmpnkoaaGreatDoor
open Go.RowKit Go.ChangeShapes Go.WideShapes Go.ChangeAt
theorem pd_lifted (os : Os) (started : os.Started) (H : Type) (enc : TypeId × Value → H) :
  ReturnsInHanded {} Tryz.checked os 9 .any (fun w args => (Rows.paradigmDerivesSpec.pre enc Tryz.prog Tryz.f9 [] false w args ∧ laidMetH Tryz.prog laid3 w) ∧ sizedMet enc Tryz.prog Tryz.f9 (OpenSpec.ofChange Rows.paradigmDerivesSpec) false w args)
   (Rows.paradigmDerivesSpec.post enc Tryz.prog Tryz.f9 false true false false) := by
 refine returnsInHanded_of_change_and (C := Tryz.checked) (X := fun w _ => laidMetH Tryz.prog laid3 w) (fun _ _ _ hh h => h.of_heap hh) own_knob started (by kernel_rfl) Tryz.func9
  (ChangeSpec.witness_shaped (enc := enc) (C := Tryz.checked) (os := os) (X := fun w _ => laidMetH Tryz.prog laid3 w) false (World.laidAll Tryz.prog os laid3) #[.slice none 0 0, .slice none 0 0] 8 (World.laidAll_os _ _ _)
   (World.shaped_of_ZipB (by kernel_rfl) (by kernel_rfl)) (by kernel_rfl) (by kernel_rfl) (by kernel_rfl)
   (by rw [MakeChecks.laidMetH_plain _ _ _ (by kernel_rfl)]; exact laidMet_laidAll _ (by kernel_rfl) (by kernel_rfl))) ?_
 intro W base args ds gs before a0 hW _ _ hL _
 have a1 : ∀ (j : Nat) t v, Tryz.f9.params[j]? = some t → args[j]? = some v → Value.okWide Tryz.prog W .any base t v := a0
 have a4 := hW
 obtain ⟨p, q, a6, hV, rfl, _, _⟩ := hW
 have hA : DataW.TrodAll enc Tryz.prog W 0 (fun _ => true) true Tryz.f9.params.toList args.toList ds p := a6
 rw [Tryz.params9] at hA a1
 obtain ⟨v0, v1, d0, d1, p0, p1, rfl, rfl, rfl, h0, h1⟩ := trodAll_two hA
 obtain ⟨rfl, rfl⟩ := trodVars_none hV
 obtain ⟨A0, n0, c0, rfl⟩ := okWide_slice Tryz.underlying66 (a1 0 66 v0 rfl rfl)
 obtain ⟨A1, n1, c1, rfl⟩ := okWide_slice Tryz.underlying35 (a1 1 35 v1 rfl rfl)
 clear a6 a0
 simp only [List.append_nil] at a4
 have a5 : ∀ x ∈ p0 ++ p1, x.block < W.heap.size := fun x hx => by simpa using a4.lt x (by simpa using hx)
 obtain ⟨xs0, a8⟩ := open_parU h0
 obtain ⟨xs1, a7⟩ := open_lawsU h1
 refine (parDerives_c _ _ _ xs0 _ _ _ xs1 W a8 a7 (tab_of_laid hL)).mono fun e W' ⟨he, hb⟩ => ?_
 subst he
 have a2 := Below.trod laid_out (by kernel_rfl) (of_decide_eq_true (by kernel_rfl)) h0 hb (fun x hx => a5 x (List.mem_append.2 (.inl hx)))
 have a3 := Below.trod laid_out (by kernel_rfl) (of_decide_eq_true (by kernel_rfl)) h1 hb (fun x hx => a5 x (List.mem_append.2 (.inr hx)))
 exact ⟨_, rfl, _, _, _, [], _, [], a4, trodAll_mk1 (shut_bool Tryz.underlying4 _), trodAll_mk2 a2 a3, rfl, hb.frame _, fun h => by cases h⟩
theorem pd_ra : Tryz.pinned.checked.prog.funcNamed Rows.paradigmDerivesRow.func = some 9 := by kernel_rfl
theorem pd_k10 : (Rows.paradigmDerivesRow.inPlace == Program.inPlace Tryz.pinned.checked.prog 9) = true := by kernel_rfl
theorem pd_k11 : (Rows.paradigmDerivesRow.unfollowed == Program.unfollowed Tryz.pinned.checked.prog 9) = true := by kernel_rfl
theorem pd_k12 : (Rows.paradigmDerivesRow.recurses == Program.recurses Tryz.pinned.checked.prog 9) = true := by kernel_rfl
theorem pd_k13 : (Rows.paradigmDerivesRow.named == Program.varsNamed Tryz.pinned.checked.prog 9) = true := by kernel_rfl
theorem pd_k26 : (Rows.paradigmDerivesRow.lifted == Program.liftsFinal Tryz.pinned.checked.prog) = true := by kernel_rfl
theorem pd_k27 : (Rows.paradigmDerivesRow.plainKeys == Program.plainKeys Tryz.pinned.checked.prog) = true := by kernel_rfl
theorem pd_rb : joinedFacts Tryz.pinned.checked.prog 9 Tryz.f9 Rows.paradigmDerivesSpec Rows.paradigmDerivesRow = true := by
 unfold joinedFacts
 rw [pd_k10, pd_k11, pd_k12, pd_k13, pd_k26, pd_k27, seat_k2, seat_k3, seat_k24, seat_k25]
 kernel_rfl
theorem pd_rc : Func.isInstance Tryz.pinned.checked.prog Tryz.f9 Rows.paradigmDerivesRow.origin Rows.paradigmDerivesRow.targs := of_decide_eq_true (by kernel_rfl)
theorem pd_rd : Func.isWrapper Tryz.pinned.checked.prog Tryz.f9 Rows.paradigmDerivesRow.wrapper Rows.paradigmDerivesRow.mainSum := by unfold Func.isWrapper; first | (rw [if_pos (by decide +kernel)]; kernel_rfl) | (rw [if_neg (by decide +kernel)]; exact ⟨rfl, rfl⟩)
theorem pd_row : Rows.ParadigmDerivesSaid :=
 OpenClaim.holds_of_wide 9 Tryz.f9 rfl rfl rfl rfl rfl rfl rfl ⟨rfl, rfl, rfl, rfl, rfl⟩ rfl rfl rfl rfl rfl pd_ra Tryz.func9 pd_rb
  pd_rc pd_rd
  (fun os started H enc _ => pd_lifted os started H enc)
end Go.Proofs.YtcpcojgmmpnkoaaGreatDoor

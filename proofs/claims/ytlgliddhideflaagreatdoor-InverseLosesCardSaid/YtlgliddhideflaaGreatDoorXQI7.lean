/-
  ablautlaw11.InverseLoses is true of every input. Conditions: those of the row's own cells, no other.
-/
import Derived.Test.YtlgliddhideflaaGreatDoorXT117
import Derived.Test.YtlgliddhideflaaGreatDoorG51
import Derived.Test.YtlgliddhideflaaGreatDoorTie
set_option linter.all false
set_option maxRecDepth 100000
set_option maxHeartbeats 4000000
namespace Go.Proofs.YtlgliddhideflaaGreatDoor
open Go.RowKit Go.ChangeShapes Go.WideShapes Go.ChangeAt
theorem inverseLoses_lifted (os : Os) (started : os.Started) (H : Type) (enc : TypeId × Value → H) :
  ReturnsInHanded {} Tryz.checked os 8 .any (fun w args => (Rows.inverseLosesSpec.pre enc Tryz.prog Tryz.f8 [] false w args ∧ laidMetH Tryz.prog laid3 w) ∧ sizedMet enc Tryz.prog Tryz.f8 (OpenSpec.ofChange Rows.inverseLosesSpec) false w args)
   (Rows.inverseLosesSpec.post enc Tryz.prog Tryz.f8 false true false false) := by
 refine returnsInHanded_of_change_and (C := Tryz.checked) (X := fun w _ => laidMetH Tryz.prog laid3 w) (fun _ _ _ hh h => h.of_heap hh) own_knob started (by kernel_rfl) Tryz.func8
  (ChangeSpec.witness_shaped (enc := enc) (C := Tryz.checked) (os := os) (X := fun w _ => laidMetH Tryz.prog laid3 w) false (World.laidAll Tryz.prog os laid3) #[.slice none 0 0, .int .u8 0, .int .u8 0] 8 (World.laidAll_os _ _ _)
   (World.shaped_of_ZipB (by kernel_rfl) (by kernel_rfl)) (by kernel_rfl) (by kernel_rfl) (by kernel_rfl)
   (by rw [MakeChecks.laidMetH_plain _ _ _ (by kernel_rfl)]; exact laidMet_laidAll _ (by kernel_rfl) (by kernel_rfl))) ?_
 intro W base args ds gs before hval0 hW _ _ hL _
 have hval : ∀ (j : Nat) t v, Tryz.f8.params[j]? = some t → args[j]? = some v → Value.okWide Tryz.prog W .any base t v := hval0
 have hW' := hW
 obtain ⟨p, q, hA0, hV, rfl, _, _⟩ := hW
 have hA : DataW.TrodAll enc Tryz.prog W 0 (fun _ => true) true Tryz.f8.params.toList args.toList ds p := hA0
 rw [Tryz.params8] at hA hval
 obtain ⟨v0, v1, v2, d0, d1, d2, p0, p1, p2, rfl, rfl, rfl, h0, h1, h2⟩ := trodAll_three hA
 obtain ⟨rfl, rfl⟩ := trodVars_none hV
 obtain ⟨A0, n0, c0, rfl⟩ := okWide_slice Tryz.underlying35 (hval 0 35 v0 rfl rfl)
 obtain ⟨a1, rfl, rfl, rfl, wa1⟩ := open_int Tryz.underlying5 (hval 1 5 v1 rfl rfl) h1
 obtain ⟨lo1, hi1⟩ := u8_within wa1
 obtain ⟨a2, rfl, rfl, rfl, wa2⟩ := open_int Tryz.underlying5 (hval 2 5 v2 rfl rfl) h2
 obtain ⟨lo2, hi2⟩ := u8_within wa2
 clear hA0 hval0
 simp only [List.append_nil] at hW'
 have hlt : ∀ x ∈ p0 ++ [] ++ [], x.block < W.heap.size := fun x hx => by simpa using hW'.lt x (by simpa using hx)
 obtain ⟨xs0, hx0⟩ := open_laws h0
 refine (loses_c _ _ _ xs0 a1 lo1 hi1 a2 lo2 hi2 W hx0 (tab_of_laid hL)).mono fun e W' ⟨he, hb⟩ => ?_
 subst he
 have harg0 := Below.trod laid_out (by kernel_rfl) (of_decide_eq_true (by kernel_rfl)) h0 hb (fun x hx => hlt x (List.mem_append.2 (.inl (List.mem_append.2 (.inl hx)))))
 have harg1 := Below.trod laid_out (by kernel_rfl) (of_decide_eq_true (by kernel_rfl)) h1 hb (fun x hx => hlt x (List.mem_append.2 (.inl (List.mem_append.2 (.inr hx)))))
 have harg2 := Below.trod laid_out (by kernel_rfl) (of_decide_eq_true (by kernel_rfl)) h2 hb (fun x hx => hlt x (List.mem_append.2 (.inr hx)))
 exact ⟨_, rfl, _, _, _, [], _, [], hW', trodAll_mk1 (shut_bool Tryz.underlying4 _), trodAll_mk3 harg0 harg1 harg2, rfl, hb.frame _, fun h => by cases h⟩
theorem inverseLoses_ra : Tryz.pinned.checked.prog.funcNamed Rows.inverseLosesRow.func = some 8 := by kernel_rfl
theorem inverseLoses_k10 : (Rows.inverseLosesRow.inPlace == Program.inPlace Tryz.pinned.checked.prog 8) = true := by kernel_rfl
theorem inverseLoses_k11 : (Rows.inverseLosesRow.unfollowed == Program.unfollowed Tryz.pinned.checked.prog 8) = true := by kernel_rfl
theorem inverseLoses_k12 : (Rows.inverseLosesRow.recurses == Program.recurses Tryz.pinned.checked.prog 8) = true := by kernel_rfl
theorem inverseLoses_k13 : (Rows.inverseLosesRow.named == Program.varsNamed Tryz.pinned.checked.prog 8) = true := by kernel_rfl
theorem inverseLoses_k26 : (Rows.inverseLosesRow.lifted == Program.liftsFinal Tryz.pinned.checked.prog) = true := by kernel_rfl
theorem inverseLoses_k27 : (Rows.inverseLosesRow.plainKeys == Program.plainKeys Tryz.pinned.checked.prog) = true := by kernel_rfl
theorem inverseLoses_rb : joinedFacts Tryz.pinned.checked.prog 8 Tryz.f8 Rows.inverseLosesSpec Rows.inverseLosesRow = true := by
 unfold joinedFacts
 rw [inverseLoses_k10, inverseLoses_k11, inverseLoses_k12, inverseLoses_k13, inverseLoses_k26, inverseLoses_k27, seat_k2, seat_k3, seat_k24, seat_k25]
 kernel_rfl
theorem inverseLoses_rc : Func.isInstance Tryz.pinned.checked.prog Tryz.f8 Rows.inverseLosesRow.origin Rows.inverseLosesRow.targs := of_decide_eq_true (by kernel_rfl)
theorem inverseLoses_rd : Func.isWrapper Tryz.pinned.checked.prog Tryz.f8 Rows.inverseLosesRow.wrapper Rows.inverseLosesRow.mainSum := by unfold Func.isWrapper; first | (rw [if_pos (by decide +kernel)]; kernel_rfl) | (rw [if_neg (by decide +kernel)]; exact ⟨rfl, rfl⟩)
theorem inverseLoses_row : Rows.InverseLosesSaid :=
 OpenClaim.holds_of_wide 8 Tryz.f8 rfl rfl rfl rfl rfl rfl rfl ⟨rfl, rfl, rfl, rfl, rfl⟩ rfl rfl rfl rfl rfl inverseLoses_ra Tryz.func8 inverseLoses_rb
  inverseLoses_rc inverseLoses_rd
  (fun os started H enc _ => inverseLoses_lifted os started H enc)
end Go.Proofs.YtlgliddhideflaaGreatDoor

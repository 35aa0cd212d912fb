/-
  The relations of two laws for a word (Relation, Feeds, Bleeds, Commute) are those of the document (ablautlaw12.InterplayRelations returns true). Conditions: those of the row's own cells, no other.
-/
import Derived.Test.YtcpcojgmmpnkoaaGreatDoorXT10
import Derived.Test.YtcpcojgmmpnkoaaGreatDoorG50
import Derived.Test.YtcpcojgmmpnkoaaGreatDoorG29
import Derived.Test.YtcpcojgmmpnkoaaGreatDoorG20
import Derived.Test.YtcpcojgmmpnkoaaGreatDoorG51
import Derived.Test.YtcpcojgmmpnkoaaGreatDoorCards
import Derived.Test.YtcpcojgmmpnkoaaGreatDoorTie
set_option linter.unusedVariables false
set_option linter.unusedSimpArgs false
set_option maxRecDepth 100000
set_option maxHeartbeats 4000000
namespace Go.Proofs.YtcpcojgmmpnkoaaGreatDoor
open Go.RowKit Go.ChangeShapes Go.WideShapes Go.ChangeAt
theorem interplayRelations_lifted (os : Os) (started : os.Started) (H : Type) (enc : TypeId × Value → H) :
  ReturnsInHanded {} Tryz.checked os 4 .any (fun w args => (Rows.interplayRelationsSpec.pre enc Tryz.prog Tryz.f4 [] false w args ∧ laidMetH Tryz.prog laid3 w) ∧ sizedMet enc Tryz.prog Tryz.f4 (OpenSpec.ofChange Rows.interplayRelationsSpec) false w args)
   (Rows.interplayRelationsSpec.post enc Tryz.prog Tryz.f4 false true false false) := by
 refine returnsInHanded_of_change_and (C := Tryz.checked) (X := fun w _ => laidMetH Tryz.prog laid3 w) (fun _ _ _ hh h => h.of_heap hh) own_knob started (by kernel_rfl) Tryz.func4
  (ChangeSpec.witness_shaped (enc := enc) (C := Tryz.checked) (os := os) (X := fun w _ => laidMetH Tryz.prog laid3 w) false (World.laidAll Tryz.prog os laid3) #[lawZ, lawZ, .slice none 0 0] 8 (World.laidAll_os _ _ _)
   (World.shaped_of_ZipB (by kernel_rfl) (by kernel_rfl)) (by kernel_rfl) (by kernel_rfl) (by kernel_rfl)
   (by rw [MakeChecks.laidMetH_plain _ _ _ (by kernel_rfl)]; exact laidMet_laidAll _ (by kernel_rfl) (by kernel_rfl))) ?_
 intro W base args ds gs before hval0 hW _ _ hL _
 have hval : ∀ (j : Nat) t v, Tryz.f4.params[j]? = some t → args[j]? = some v → Value.okWide Tryz.prog W .any base t v := hval0
 have hW' := hW
 obtain ⟨p, q, hA0, hV, rfl, _, _⟩ := hW
 have hA : DataW.TrodAll enc Tryz.prog W 0 (fun _ => true) true Tryz.f4.params.toList args.toList ds p := hA0
 rw [Tryz.params4] at hA hval
 obtain ⟨v0, v1, v2, d0, d1, d2, p0, p1, p2, rfl, rfl, rfl, h0, h1, h2⟩ := trodAll_three hA
 obtain ⟨rfl, rfl⟩ := trodVars_none hV
 obtain ⟨A0, rfl, _⟩ := okWide_struct Tryz.underlying34 (hval 0 34 v0 rfl rfl)
 obtain ⟨A1, rfl, _⟩ := okWide_struct Tryz.underlying34 (hval 1 34 v1 rfl rfl)
 obtain ⟨A2, n2, c2, rfl⟩ := okWide_slice Tryz.underlying32 (hval 2 32 v2 rfl rfl)
 clear hA0 hval0
 simp only [List.append_nil] at hW'
 have hlt : ∀ x ∈ p0 ++ p1 ++ p2, x.block < W.heap.size := fun x hx => by simpa using hW'.lt x (by simpa using hx)
 obtain ⟨xs0, rfl, hx0⟩ := open_lawU h0
 obtain ⟨xs1, rfl, hx1⟩ := open_lawU h1
 obtain ⟨xs2, hx2⟩ := open_wordU h2
 refine (relations_c xs0.l xs0.a xs1.l xs1.a _ _ _ xs2 W hx0 hx1 hx2 (tab_of_laid hL)).mono fun e W' ⟨he, hb⟩ => ?_
 subst he
 have harg0 := Below.trod laid_out (by kernel_rfl) (of_decide_eq_true (by kernel_rfl)) h0 hb (fun x hx => hlt x (List.mem_append.2 (.inl (List.mem_append.2 (.inl hx)))))
 have harg1 := Below.trod laid_out (by kernel_rfl) (of_decide_eq_true (by kernel_rfl)) h1 hb (fun x hx => hlt x (List.mem_append.2 (.inl (List.mem_append.2 (.inr hx)))))
 have harg2 := Below.trod laid_out (by kernel_rfl) (of_decide_eq_true (by kernel_rfl)) h2 hb (fun x hx => hlt x (List.mem_append.2 (.inr hx)))
 exact ⟨_, rfl, _, _, _, [], _, [], hW', trodAll_mk1 (shut_bool Tryz.underlying4 _), trodAll_mk3 harg0 harg1 harg2, rfl, hb.frame _, fun h => by cases h⟩
theorem interplayRelations_ra : Tryz.pinned.checked.prog.funcNamed Rows.interplayRelationsRow.func = some 4 := by kernel_rfl
theorem interplayRelations_k10 : (Rows.interplayRelationsRow.inPlace == Program.inPlace Tryz.pinned.checked.prog 4) = true := by kernel_rfl
theorem interplayRelations_k11 : (Rows.interplayRelationsRow.unfollowed == Program.unfollowed Tryz.pinned.checked.prog 4) = true := by kernel_rfl
theorem interplayRelations_k12 : (Rows.interplayRelationsRow.recurses == Program.recurses Tryz.pinned.checked.prog 4) = true := by kernel_rfl
theorem interplayRelations_k13 : (Rows.interplayRelationsRow.named == Program.varsNamed Tryz.pinned.checked.prog 4) = true := by kernel_rfl
theorem interplayRelations_k26 : (Rows.interplayRelationsRow.lifted == Program.liftsFinal Tryz.pinned.checked.prog) = true := by kernel_rfl
theorem interplayRelations_k27 : (Rows.interplayRelationsRow.plainKeys == Program.plainKeys Tryz.pinned.checked.prog) = true := by kernel_rfl
theorem interplayRelations_rb : joinedFacts Tryz.pinned.checked.prog 4 Tryz.f4 Rows.interplayRelationsSpec Rows.interplayRelationsRow = true := by
 unfold joinedFacts
 rw [interplayRelations_k10, interplayRelations_k11, interplayRelations_k12, interplayRelations_k13, interplayRelations_k26, interplayRelations_k27, seat_k2, seat_k3, seat_k24, seat_k25]
 kernel_rfl
theorem interplayRelations_rc : Func.isInstance Tryz.pinned.checked.prog Tryz.f4 Rows.interplayRelationsRow.origin Rows.interplayRelationsRow.targs := of_decide_eq_true (by kernel_rfl)
theorem interplayRelations_rd : Func.isWrapper Tryz.pinned.checked.prog Tryz.f4 Rows.interplayRelationsRow.wrapper Rows.interplayRelationsRow.mainSum := by unfold Func.isWrapper; first | (rw [if_pos (by decide +kernel)]; kernel_rfl) | (rw [if_neg (by decide +kernel)]; exact ⟨rfl, rfl⟩)
theorem interplayRelations_row : Rows.InterplayRelationsSaid :=
 OpenClaim.holds_of_wide 4 Tryz.f4 rfl rfl rfl rfl rfl rfl rfl ⟨rfl, rfl, rfl, rfl, rfl⟩ rfl rfl rfl rfl rfl interplayRelations_ra Tryz.func4 interplayRelations_rb
  interplayRelations_rc interplayRelations_rd
  (fun os started H enc _ => interplayRelations_lifted os started H enc)
end Go.Proofs.YtcpcojgmmpnkoaaGreatDoor

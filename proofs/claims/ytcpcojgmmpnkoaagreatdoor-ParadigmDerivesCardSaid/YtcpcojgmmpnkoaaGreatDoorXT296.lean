/-
  ablautlaw29.ParadigmDerives is true.
-/
import Derived.Test.YtcpcojgmmpnkoaaGreatDoorXR29h
import Derived.Test.YtcpcojgmmpnkoaaGreatDoorG69
import Derived.Test.YtcpcojgmmpnkoaaGreatDoorG67
import Derived.Test.YtcpcojgmmpnkoaaGreatDoorXLight25
set_option linter.all false
set_option maxRecDepth 100000
set_option maxHeartbeats 4000000
namespace Go.Proofs.YtcpcojgmmpnkoaaGreatDoor
open Go.RowKit Go.Shelf
theorem parDerives_c (A : Option Addr) (n c : Nat) (T : List (List Frm)) (A' : Option Addr) (n' c' : Nat) (xs : List LawR) (w : World) (hx : IsPar w A n c T ∧ ParU T) (hl : IsLaws w A' n' c' xs ∧ LawsU xs) (hT : TabOK w) :
  Calls Tryz.prog 9 #[.slice A n c, .slice A' n' c'] w (RetTrue w) := by
 have d7 := hx.1.max
 have d8 := hl.1.max
 have HX := hI hx.1
 have HU := hI hx.2
 have HL := hI hl.1
 have d6 := hI hl.2
 have HT := hI hT
 clear hx hl hT
 go_enter Tryz.func9, Tryz.ntmps9
 go_wp2_with fail
 refine (light29_c A n c T w HX.out).mono ?_
 rintro e w0 ⟨⟨b, rfl, d0⟩, a0⟩
 cases b with
 | false =>
  go_wp2_with fail
  refine (works29_c _ (HT.out.below a0 rr)).mono ?_
  rintro e w9 ⟨rfl, a1⟩
  go_wp2
  go_ret
  exact ⟨rfl, a0.trans (a1.mono a0.size)⟩
 | true =>
  have d5 : Hid (LightOK T) := d0 rfl
  clear d0
  go_wp2_with fail
  refine (light25_c A' n' c' xs w0 (HL.out.below a0 rr)).mono ?_
  rintro e w1 ⟨⟨b, rfl⟩, b9⟩
  have a2 := a0.trans (b9.mono a0.size)
  clear b9 a0
  cases b with
  | false =>
   go_wp2_with fail
   refine (works29_c _ (HT.out.below a2 rr)).mono ?_
   rintro e w9 ⟨rfl, a1⟩
   go_wp2
   go_ret
   exact ⟨rfl, a2.trans (a1.mono a2.size)⟩
  | true =>
   have a7 := hI a2
   clear a2
   go_wp2_with fail
   refine (copied29_c A n c T w1 (HX.out.below a7.out rr) d5.out).mono ?_
   rintro e w2 ⟨A2, n2, c2, rfl, b4, d1⟩
   have b8 := hI b4
   have a3 := hI (a7.out.trans (d1.mono a7.out.size))
   clear d1 b4
   go_wp2_with fail
   refine (pDerive_c A2 n2 c2 T A' n' c' xs w2 b8.out (HL.out.below a3.out rr) (HT.out.below a3.out rr)).mono ?_
   obtain ⟨r, hr⟩ : ∃ r, r = pDerM T (lawsD xs) := ⟨_, rfl⟩
   rw [← hr]
   have HR := hI hr; clear hr
   rintro e w3 ⟨A3, n3, c3, rfl, b5, b3⟩
   have d3 := hI b5
   have b0 := hI (b8.out.below b3 rr)
   have a4 := hI (a3.out.trans (b3.mono a3.out.size))
   clear b3 b5
   go_wp2_with fail
   refine (r29Derive_c A n c T A' n' c' xs w3 (HX.out.below a4.out rr) (HL.out.below a4.out rr) HU.out d6.out).mono ?_
   rw [← HR.out]
   rintro e w4 ⟨A4, n4, c4, rfl, b7, a5⟩
   have d4 := hI b7
   have a9 := hI (d3.out.below a5 rr)
   have b2 := hI (b0.out.below a5 rr)
   have d2 := hI (a4.out.trans (a5.mono a4.out.size))
   clear a5 b7
   go_wp2_with fail
   refine (same29_c A3 A4 n3 n4 c3 c4 _ _ w4 a9.out d4.out).mono ?_
   rintro e w5 ⟨rfl, a8⟩
   rw [decide_eq_true rfl]
   have a6 := d2.out.trans (a8.mono d2.out.size)
   go_wp2_with fail
   refine (same29_c A2 A n2 n c2 c _ _ w5 (b2.out.below a8 rr) (HX.out.below a6 rr)).mono ?_
   rintro e w6 ⟨rfl, b6⟩
   rw [decide_eq_true rfl]
   have b1 := a6.trans (b6.mono a6.size)
   clear a8 b6
   go_wp2_with fail
   refine (works29_c _ (HT.out.below b1 rr)).mono ?_
   rintro e w9 ⟨rfl, a1⟩
   go_wp2
   go_ret
   exact ⟨rfl, b1.trans (a1.mono b1.size)⟩
end Go.Proofs.YtcpcojgmmpnkoaaGreatDoor

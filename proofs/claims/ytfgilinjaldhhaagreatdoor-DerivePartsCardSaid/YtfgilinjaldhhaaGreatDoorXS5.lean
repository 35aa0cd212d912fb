/-
  ablautlaw10.DeriveParts is true.
-/
import Derived.Test.YtfgilinjaldhhaaGreatDoorG30
import Derived.Test.YtfgilinjaldhhaaGreatDoorG15
import Derived.Test.YtfgilinjaldhhaaGreatDoorG17
import Derived.Test.YtfgilinjaldhhaaGreatDoorG18
set_option linter.unusedVariables false
set_option linter.unusedSimpArgs false
set_option maxRecDepth 100000
set_option maxHeartbeats 4000000
namespace Go.Proofs.YtfgilinjaldhhaaGreatDoor
open Go.RowKit Go.Shelf
theorem deriveParts_c (A : Option Addr) (n c : Nat) (xs : List LawR) (Aw : Option Addr) (nw cw : Nat) (ws : List Snd) (a b : Int) (w : World) (hx : IsLaws w A n c xs ∧ LawsU xs) (hw : IsWord w Aw nw cw ws ∧ WordU ws) (hT : TabOK w) :
  Calls Tryz.prog 5 #[.slice A n c, .slice Aw nw cw, .int .i64 a, .int .i64 b] w fun e w' => e = .returned (.bool true) ∧ Below w.heap.size w w' := by
 have hmx := hx.1.max
 have hmw := hw.1.max
 have HX := hI hx.1
 have HW := hI hw.1
 have HUX := hI hx.2
 have HUW := hI hw.2
 clear hx hw
 have HT := hI hT; clear hT
 go_enter Tryz.func5, Tryz.ntmps5
 go_wp2_with fail
 refine (light_c A n c xs w HX.out).mono ?_
 rintro e w1 ⟨⟨b1, rfl⟩, hB1⟩
 have HB1 := hI hB1; clear hB1
 cases b1
 ·go_wp2_with fail
  refine (works_c _ (HT.out.below HB1.out rr)).mono ?_
  rintro e w2 ⟨rfl, hbw⟩
  go_wp2
  go_ret
  exact ⟨rfl, Below.trans HB1.out (hbw.mono (Below.size HB1.out))⟩
 by_cases h100 : 100 < nw
 ·go_wp2_with fail
  refine (works_c _ (HT.out.below HB1.out rr)).mono ?_
  rintro e w2 ⟨rfl, hbw⟩
  go_wp2
  go_ret
  exact ⟨rfl, Below.trans HB1.out (hbw.mono (Below.size HB1.out))⟩
 go_wp2_with fail
 refine (part_c A n c xs a b Aw nw cw ws w1 (HX.out.below HB1.out rr) (HW.out.below HB1.out rr) (HT.out.below HB1.out rr)).mono ?_
 rintro e w3 ⟨A3, n3, c3, rfl, hw3, hB3', _⟩
 have HB3 := hI (HB1.out.trans (hB3'.mono HB1.out.size)); clear hB3' HB1
 have HW3 := hI hw3; clear hw3
 go_wp2_with fail
 refine (r10Part_c A n c xs a b Aw nw cw ws w3 (HX.out.below HB3.out rr) (HW.out.below HB3.out rr) HUX.out HUW.out).mono ?_
 rintro e w4 ⟨A4, n4, c4, rfl, hw4, hB4'⟩
 have HW3' := hI (HW3.out.below hB4' rr); clear HW3
 have HB4 := hI (HB3.out.trans (hB4'.mono HB3.out.size)); clear hB4' HB3
 have HW4 := hI hw4; clear hw4
 obtain ⟨⟨er, x⟩, hr⟩ : ∃ r : Int × List Snd, partM (lawsD xs) a b ws = r := ⟨_, rfl⟩
 rw [hr] at HW3' HW4 ⊢
 clear hr
 have g1 : (er == er) = true := by simp
 go_wp2_with fail
 refine (rEqual_c A3 A4 n3 n4 c3 c4 x x w4 HW3'.out HW4.out).mono ?_
 rintro e w5 ⟨rfl, hB5'⟩
 have HB5 := hI (HB4.out.trans (hB5'.mono HB4.out.size)); clear hB5' HB4
 rw [show decide (x = x) = true from decide_eq_true rfl]
 clear g1
 go_wp2_with fail
 refine (works_c _ (HT.out.below HB5.out rr)).mono ?_
 rintro e w6 ⟨rfl, hbw⟩
 go_wp2
 go_ret
 exact ⟨rfl, Below.trans HB5.out (hbw.mono (Below.size HB5.out))⟩
end Go.Proofs.YtfgilinjaldhhaaGreatDoor

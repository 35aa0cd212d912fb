/-
  ablautlaw10.DeriveIdles is true.
-/
import Derived.Test.YtfgilinjaldhhaaGreatDoorXR10i
import Derived.Test.YtfgilinjaldhhaaGreatDoorXIdle1
import Derived.Test.YtfgilinjaldhhaaGreatDoorXShort
import Derived.Test.YtfgilinjaldhhaaGreatDoorG17
import Derived.Test.YtfgilinjaldhhaaGreatDoorG18
set_option linter.unusedVariables false
set_option linter.unusedSimpArgs false
set_option maxRecDepth 100000
set_option maxHeartbeats 4000000
namespace Go.Proofs.YtfgilinjaldhhaaGreatDoor
open Go.RowKit Go.Shelf
theorem deriveIdles_c (A : Option Addr) (n c : Nat) (xs : List LawR) (A' : Option Addr) (n' c' : Nat) (wss : List (List Snd)) (w : World) (hx : IsLaws w A n c xs ∧ LawsU xs) (hw : IsWords w A' n' c' wss ∧ ∀ x ∈ wss, WordU x) (hT : TabOK w) :
  Calls Tryz.prog 10 #[.slice A n c, .slice A' n' c'] w fun e w' => e = .returned (.bool true) ∧ Below w.heap.size w w' := by
 have hmx := hx.1.max
 have hmw := hw.1.max
 have HX := hI hx.1
 have HW := hI hw.1
 have HUX := hI hx.2
 have HUW := hI hw.2
 clear hx hw
 have HT := hI hT; clear hT
 go_enter Tryz.func10, Tryz.ntmps10
 go_wp2_with fail
 refine (light_c A n c xs w HX.out).mono ?_
 rintro e w1 ⟨⟨b1, rfl⟩, hB1⟩
 have HB1 := hI hB1; clear hB1
 cases b1
 ·go_wp2_with fail
  refine (works_c _ (HT.out.below HB1.out rr)).mono ?_
  rintro e w2 ⟨rfl, hbw⟩
  go_wp2
  go_ret
  exact ⟨rfl, Below.trans HB1.out (hbw.mono (Below.size HB1.out))⟩
 go_wp2_with fail
 refine (short_c A' n' c' wss w1 (HW.out.below HB1.out rr)).mono ?_
 rintro e w2 ⟨⟨b2, rfl⟩, hB2'⟩
 have HB2 := hI (HB1.out.trans (hB2'.mono HB1.out.size)); clear hB2' HB1
 cases b2
 ·go_wp2_with fail
  refine (works_c _ (HT.out.below HB2.out rr)).mono ?_
  rintro e w3 ⟨rfl, hbw⟩
  go_wp2
  go_ret
  exact ⟨rfl, Below.trans HB2.out (hbw.mono (Below.size HB2.out))⟩
 go_wp2_with fail
 refine (idle_c A n c xs A' n' c' wss w2 (HX.out.below HB2.out rr) (HW.out.below HB2.out rr) (HT.out.below HB2.out rr)).mono ?_
 rintro e w3 ⟨A3, n3, c3, rfl, hi3, hB3'⟩
 have HI3 := hI hi3; clear hi3
 have HB3 := hI (HB2.out.trans (hB3'.mono HB2.out.size)); clear hB3' HB2
 go_wp2_with fail
 refine (r10Idle_c A n c xs A' n' c' wss w3 (HX.out.below HB3.out rr) (HW.out.below HB3.out rr) HUX.out HUW.out).mono ?_
 rintro e w4 ⟨A4, n4, c4, rfl, hi4, hB4'⟩
 have HI3' := hI (HI3.out.below hB4' rr); clear HI3
 have HI4 := hI hi4; clear hi4
 have HB4 := hI (HB3.out.trans (hB4'.mono HB3.out.size)); clear hB4' HB3
 obtain ⟨⟨er, x⟩, hr⟩ : ∃ r : Int × List Int, idleM (lawsD xs) wss = r := ⟨_, rfl⟩
 rw [hr] at HI3' HI4 ⊢
 clear hr
 have g1 : (er == er) = true := by simp
 go_wp2_with fail
 refine (numbers_c A3 A4 n3 n4 c3 c4 x x w4 HI3'.out HI4.out).mono ?_
 rintro e w5 ⟨rfl, hB5'⟩
 have HB5 := hI (HB4.out.trans (hB5'.mono HB4.out.size)); clear hB5' HB4
 rw [show decide (x = x) = true from decide_eq_true rfl]
 clear g1
 go_wp2_with fail
 refine (works_c _ (HT.out.below HB5.out rr)).mono ?_
 rintro e w6 ⟨rfl, hbw⟩
 go_wp2
 go_ret
 exact ⟨rfl, Below.trans HB5.out (hbw.mono (Below.size HB5.out))⟩
end Go.Proofs.YtfgilinjaldhhaaGreatDoor

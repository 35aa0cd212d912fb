/-
  ablautlaw10.DeriveLists is true.
-/
import Derived.Test.YtfgilinjaldhhaaGreatDoorXR10h
import Derived.Test.YtfgilinjaldhhaaGreatDoorG16
import Derived.Test.YtfgilinjaldhhaaGreatDoorXPairs1
import Derived.Test.YtfgilinjaldhhaaGreatDoorXShort
import Derived.Test.YtfgilinjaldhhaaGreatDoorG17
import Derived.Test.YtfgilinjaldhhaaGreatDoorG18
set_option linter.unusedVariables false
set_option linter.unusedSimpArgs false
set_option maxRecDepth 100000
set_option maxHeartbeats 4000000
namespace Go.Proofs.YtfgilinjaldhhaaGreatDoor
open Go.RowKit Go.Shelf
theorem deriveLists_c (A : Option Addr) (n c : Nat) (xs : List LawR) (A' : Option Addr) (n' c' : Nat) (wss : List (List Snd)) (w : World) (hx : IsLaws w A n c xs ∧ LawsU xs) (hw : IsWords w A' n' c' wss ∧ ∀ x ∈ wss, WordU x) (hT : TabOK w) :
  Calls Tryz.prog 7 #[.slice A n c, .slice A' n' c'] w fun e w' => e = .returned (.bool true) ∧ Below w.heap.size w w' := by
 have hmx := hx.1.max
 have hmw := hw.1.max
 have HX := hI hx.1
 have HW := hI hw.1
 have HUX := hI hx.2
 have HUW := hI hw.2
 clear hx hw
 have HT := hI hT; clear hT
 go_enter Tryz.func7, Tryz.ntmps7
 go_wp2_with fail
 refine (light_c A n c xs w HX.out).mono ?_
 rintro e w1 ⟨⟨b1, rfl⟩, hB1⟩
 have HB1 := hI hB1; clear hB1
 cases b1
 ·go_wp2_with fail
  refine (works_c _ (HT.out.below HB1.out rr)).mono ?_
  rintro e w2 ⟨rfl, hbw⟩
  go_wp2
  go_ret
  exact ⟨rfl, Below.trans HB1.out (hbw.mono (Below.size HB1.out))⟩
 go_wp2_with fail
 refine (short_c A' n' c' wss w1 (HW.out.below HB1.out rr)).mono ?_
 rintro e w2 ⟨⟨b2, rfl⟩, hB2'⟩
 have HB2 := hI (HB1.out.trans (hB2'.mono HB1.out.size)); clear HB1
 cases b2
 ·go_wp2_with fail
  refine (works_c _ (HT.out.below HB2.out rr)).mono ?_
  rintro e w3 ⟨rfl, hbw⟩
  go_wp2
  go_ret
  exact ⟨rfl, Below.trans HB2.out (hbw.mono (Below.size HB2.out))⟩
 go_wp2_with fail
 refine (pairs_c A n c xs A' n' c' wss w2 (HX.out.below HB2.out rr) (HW.out.below HB2.out rr) (HT.out.below HB2.out rr)).mono ?_
 rintro e w3 ⟨A3, n3, c3, s3, rfl, hs3, hp3, hB3'⟩
 have HV3 := hI hp3; clear hp3
 have HB3 := hI (HB2.out.trans (hB3'.mono HB2.out.size)); clear HB2
 go_wp2_with fail
 refine (r10Pairs_c A n c xs A' n' c' wss w3 (HX.out.below HB3.out rr) (HW.out.below HB3.out rr) HUX.out HUW.out).mono ?_
 rintro e w4 ⟨A4, n4, c4, s4, rfl, hs4, hp4, hB4'⟩
 have HV4 := hI hp4; clear hp4
 have HW3 := hI (HV3.out.below hB4' rr); clear HV3
 have HV3 := HW3; clear HW3
 have HB4 := hI (HB3.out.trans (hB4'.mono HB3.out.size)); clear HB3
 have HSE := hI (hs3.trans hs4.symm); clear hs3 hs4
 obtain ⟨er, her⟩ : ∃ er, er = (pairsM (lawsD xs) wss).1 := ⟨_, rfl⟩
 rw [← her]
 clear her
 go_wp2_with fail
 refine (used_c A n c xs A' n' c' wss w4 (HX.out.below HB4.out rr) (HW.out.below HB4.out rr) (HT.out.below HB4.out rr)).mono ?_
 rintro e w5 ⟨A5, n5, c5, rfl, hi5, hB5'⟩
 have HV5 := hI hi5; clear hi5
 have HW3 := hI (HV3.out.below hB5' rr); clear HV3
 have HV3 := HW3; clear HW3
 have HW4 := hI (HV4.out.below hB5' rr); clear HV4
 have HV4 := HW4; clear HW4
 have HB5 := hI (HB4.out.trans (hB5'.mono HB4.out.size)); clear HB4
 go_wp2_with fail
 refine (r10Used_c A n c xs A' n' c' wss w5 (HX.out.below HB5.out rr) (HW.out.below HB5.out rr) HUX.out HUW.out).mono ?_
 rintro e w6 ⟨A6, n6, c6, rfl, hi6, hB6'⟩
 have HV6 := hI hi6; clear hi6
 have HW3 := hI (HV3.out.below hB6' rr); clear HV3
 have HV3 := HW3; clear HW3
 have HW4 := hI (HV4.out.below hB6' rr); clear HV4
 have HV4 := HW4; clear HW4
 have HW5 := hI (HV5.out.below hB6' rr); clear HV5
 have HV5 := HW5; clear HW5
 have HB6 := hI (HB5.out.trans (hB6'.mono HB5.out.size)); clear HB5
 obtain ⟨⟨eu, x⟩, hr⟩ : ∃ r : Int × List Int, usedM (lawsD xs) wss = r := ⟨_, rfl⟩
 rw [hr] at HV5 HV6 ⊢
 clear hr
 have g1 : (er == er) = true := by simp
 have g2 : (eu == eu) = true := by simp
 go_wp2_with fail
 refine (r10SamePairs_c A3 A4 n3 n4 c3 c4 s3 s4 w6 HV3.out HV4.out HSE.out).mono ?_
 rintro e w7 ⟨rfl, hB7'⟩
 have HW5 := hI (HV5.out.below hB7' rr); clear HV5
 have HV5 := HW5; clear HW5
 have HW6 := hI (HV6.out.below hB7' rr); clear HV6
 have HV6 := HW6; clear HW6
 have HB7 := hI (HB6.out.trans (hB7'.mono HB6.out.size)); clear HB6
 go_wp2_with fail
 refine (numbers_c A5 A6 n5 n6 c5 c6 x x w7 HV5.out HV6.out).mono ?_
 rintro e w8 ⟨rfl, hB8'⟩
 have HB8 := hI (HB7.out.trans (hB8'.mono HB7.out.size)); clear HB7
 rw [show decide (x = x) = true from decide_eq_true rfl]
 clear g1 g2
 go_wp2_with fail
 refine (works_c _ (HT.out.below HB8.out rr)).mono ?_
 rintro e w9 ⟨rfl, hbw⟩
 go_wp2
 go_ret
 exact ⟨rfl, Below.trans HB8.out (hbw.mono (Below.size HB8.out))⟩
end Go.Proofs.YtfgilinjaldhhaaGreatDoor

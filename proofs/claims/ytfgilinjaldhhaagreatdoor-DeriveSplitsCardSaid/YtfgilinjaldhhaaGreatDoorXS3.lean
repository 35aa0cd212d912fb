/-
  ablautlaw10.DeriveSplits is true.
-/
import Derived.Test.YtfgilinjaldhhaaGreatDoorG31
import Derived.Test.YtfgilinjaldhhaaGreatDoorG17
import Derived.Test.YtfgilinjaldhhaaGreatDoorG18
set_option linter.unusedVariables false
set_option linter.unusedSimpArgs false
set_option maxRecDepth 100000
set_option maxHeartbeats 4000000
namespace Go.Proofs.YtfgilinjaldhhaaGreatDoor
open Go.RowKit Go.Shelf
theorem deriveSplits_c (A : Option Addr) (n c : Nat) (xs : List LawR) (A' : Option Addr) (n' c' : Nat) (ys : List LawR) (Aw : Option Addr) (nw cw : Nat) (ws : List Snd) (w : World) (hx : IsLaws w A n c xs ∧ LawsU xs) (hy : IsLaws w A' n' c' ys ∧ LawsU ys) (hw : IsWord w Aw nw cw ws ∧ WordU ws) (hT : TabOK w) :
  Calls Tryz.prog 3 #[.slice A n c, .slice A' n' c', .slice Aw nw cw] w fun e w' => e = .returned (.bool true) ∧ Below w.heap.size w w' := by
 have hmx := hx.1.max
 have hmy := hy.1.max
 have hmw := hw.1.max
 have HX := hI hx.1
 have HY := hI hy.1
 have HW := hI hw.1
 have HUX := hI hx.2
 have HUY := hI hy.2
 have HUW := hI hw.2
 clear hx hy hw
 have HT := hI hT; clear hT
 go_enter Tryz.func3, Tryz.ntmps3
 go_wp2_with fail
 refine (light_c A n c xs w HX.out).mono ?_
 rintro e w1 ⟨⟨b1, rfl⟩, hB1⟩
 have HB1 := hI hB1; clear hB1
 cases b1
 ·go_wp2_with fail
  refine (works_c _ (HT.out.below HB1.out rr)).mono ?_
  rintro e w2 ⟨rfl, hbw⟩
  go_wp2
  go_ret
  exact ⟨rfl, Below.trans HB1.out (hbw.mono (Below.size HB1.out))⟩
 go_wp2_with fail
 refine (light_c A' n' c' ys w1 (HY.out.below HB1.out rr)).mono ?_
 rintro e w2 ⟨⟨b2, rfl⟩, hB2'⟩
 have hB2 := HB1.out.trans (hB2'.mono HB1.out.size)
 have HB2 := hI hB2; clear hB2 hB2' HB1
 cases b2
 ·go_wp2_with fail
  refine (works_c _ (HT.out.below HB2.out rr)).mono ?_
  rintro e w3 ⟨rfl, hbw⟩
  go_wp2
  go_ret
  exact ⟨rfl, Below.trans HB2.out (hbw.mono (Below.size HB2.out))⟩
 by_cases h100 : 100 < nw
 ·go_wp2_with fail
  refine (works_c _ (HT.out.below HB2.out rr)).mono ?_
  rintro e w3 ⟨rfl, hbw⟩
  go_wp2
  go_ret
  exact ⟨rfl, Below.trans HB2.out (hbw.mono (Below.size HB2.out))⟩
 go_wp2_with fail
 refine (split_c A n c xs A' n' c' ys Aw nw cw ws w2 (HX.out.below HB2.out rr) (HY.out.below HB2.out rr) (HW.out.below HB2.out rr) (HT.out.below HB2.out rr)).mono ?_
 rintro e w3 ⟨rfl, hB3'⟩
 have hB3 := HB2.out.trans (hB3'.mono HB2.out.size)
 have HB3 := hI hB3; clear hB3 hB3' HB2
 go_wp2_with fail
 refine (r10Split_c A n c xs A' n' c' ys Aw nw cw ws w3 (HX.out.below HB3.out rr) (HY.out.below HB3.out rr) (HW.out.below HB3.out rr) HUX.out HUY.out HUW.out).mono ?_
 rintro e w4 ⟨rfl, hB4'⟩
 have hB4 := HB3.out.trans (hB4'.mono HB3.out.size)
 have HB4 := hI hB4; clear hB4 hB4' HB3
 obtain ⟨⟨r1, r2, r3⟩, hr⟩ : ∃ r : Int × Bool × Int, splitM (lawsD xs) (lawsD ys) ws = r := ⟨_, rfl⟩
 rw [hr]
 clear hr
 have g1 : (r1 == r1) = true := by simp
 have g2 : (r2 == r2) = true := by simp
 have g3 : (r3 == r3) = true := by simp
 go_wp2_with fail
 refine (works_c _ (HT.out.below HB4.out rr)).mono ?_
 rintro e w5 ⟨rfl, hbw⟩
 go_wp2
 go_ret
 exact ⟨rfl, Below.trans HB4.out (hbw.mono (Below.size HB4.out))⟩
end Go.Proofs.YtfgilinjaldhhaaGreatDoor

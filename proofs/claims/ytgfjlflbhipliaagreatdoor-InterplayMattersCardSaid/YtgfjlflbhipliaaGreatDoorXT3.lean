/-
  ablautlaw12.few; InterplayMatters is true.
-/
import Derived.Test.YtgfjlflbhipliaaGreatDoorG45
import Derived.Test.YtgfjlflbhipliaaGreatDoorG18
import Derived.Test.YtgfjlflbhipliaaGreatDoorXR12b
import Derived.Test.YtgfjlflbhipliaaGreatDoorG44
set_option linter.unusedVariables false
set_option linter.unusedSimpArgs false
set_option maxRecDepth 100000
set_option maxHeartbeats 4000000
namespace Go.Proofs.YtgfjlflbhipliaaGreatDoor
open Go.RowKit Go.Shelf
theorem few12_c (A : Option Addr) (n c : Nat) (xs : List LawR) (m : Int) (A' : Option Addr) (n' c' : Nat) (wss : List (List Snd)) (w : World) (hx : IsLaws w A n c xs) (hw : IsWords w A' n' c' wss) :
  Calls Tryz.prog 15 #[.slice A n c, .int .i64 m, .slice A' n' c'] w (RetBool w) := by
 have hmx := hx.max
 have hmw := hw.max
 have HX := hI hx; clear hx
 clear hw
 go_enter Tryz.func15, Tryz.ntmps15
 by_cases h1 : (n : Int) ≤ m
 ·by_cases h2 : (n' : Int) ≤ 12
  ·go_wp2_with fail
   refine (reps_c A n c xs w HX.out).mono ?_
   rintro e w1 ⟨⟨q, rfl⟩, hb⟩
   go_wp2
   go_ret
   exact ⟨⟨_, rfl⟩, hb⟩
  ·go_wp2
   go_ret
   exact ⟨⟨_, rfl⟩, Below.refl _ _⟩
 ·go_wp2
  go_ret
  exact ⟨⟨_, rfl⟩, Below.refl _ _⟩
theorem interMatters_c (A : Option Addr) (n c : Nat) (xs : List LawR) (i : Int) (A' : Option Addr) (n' c' : Nat) (wss : List (List Snd)) (w : World) (hx : IsLaws w A n c xs ∧ LawsU xs) (hw : IsWords w A' n' c' wss ∧ ∀ x ∈ wss, WordU x) (hT : TabOK w) :
  Calls Tryz.prog 3 #[.slice A n c, .int .i64 i, .slice A' n' c'] w (RetTrue w) := by
 have HX := hI hx.1
 have HU := hI hx.2
 have HW := hI hw.1
 have HWU := hI hw.2
 have HT := hI hT
 clear hx hw hT
 go_enter Tryz.func3, Tryz.ntmps3
 go_wp2_with fail
 refine (few12_c A n c xs 6 A' n' c' wss w HX.out HW.out).mono ?_
 rintro e w1 ⟨⟨b, rfl⟩, hB1⟩
 cases b with
 | false =>
  go_wp2_with fail
  refine (works12_c _ (HT.out.below hB1 rr)).mono ?_
  rintro e w9 ⟨rfl, hbw⟩
  go_wp2
  go_ret
  exact ⟨rfl, hB1.trans (hbw.mono hB1.size)⟩
 | true =>
  go_wp2_with fail
  refine (matters_c A n c xs i A' n' c' wss w1 (HX.out.below hB1 rr) (HW.out.below hB1 rr) (HT.out.below hB1 rr)).mono ?_
  rintro e w2 ⟨rfl, hb2⟩
  have hB2 := hB1.trans (hb2.mono hB1.size)
  clear hb2
  obtain ⟨r, hr⟩ : ∃ r, r = matM (lawsD xs) i wss := ⟨_, rfl⟩
  rw [← hr]
  have HR := hI hr; clear hr
  go_wp2_with fail
  refine (r12Matters_c A n c xs i A' n' c' wss w2 (HX.out.below hB2 rr) (HW.out.below hB2 rr) HU.out HWU.out).mono ?_
  rw [← HR.out]
  rintro e w3 ⟨rfl, hb3⟩
  have hB3 := hB2.trans (hb3.mono hB2.size)
  clear hb3
  go_wp2_with fail
  refine (works12_c _ (HT.out.below hB3 rr)).mono ?_
  rintro e w9 ⟨rfl, hbw⟩
  go_wp2
  go_ret
  exact ⟨rfl, hB3.trans (hbw.mono hB3.size)⟩
end Go.Proofs.YtgfjlflbhipliaaGreatDoor

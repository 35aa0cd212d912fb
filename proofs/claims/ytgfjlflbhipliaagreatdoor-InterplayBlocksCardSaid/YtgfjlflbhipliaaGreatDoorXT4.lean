/-
  ablautlaw12.InterplayBlocks is true.
-/
import Derived.Test.YtgfjlflbhipliaaGreatDoorG45
import Derived.Test.YtgfjlflbhipliaaGreatDoorXInts12
import Derived.Test.YtgfjlflbhipliaaGreatDoorXR12d
set_option linter.unusedVariables false
set_option linter.unusedSimpArgs false
set_option maxRecDepth 100000
set_option maxHeartbeats 4000000
namespace Go.Proofs.YtgfjlflbhipliaaGreatDoor
open Go.RowKit Go.Shelf
theorem interBlocks_c (A : Option Addr) (n c : Nat) (xs : List LawR) (A' : Option Addr) (n' c' : Nat) (wss : List (List Snd)) (w : World) (hx : IsLaws w A n c xs ∧ LawsU xs) (hw : IsWords w A' n' c' wss ∧ ∀ x ∈ wss, WordU x) (hT : TabOK w) :
  Calls Tryz.prog 4 #[.slice A n c, .slice A' n' c'] w (RetTrue w) := by
 have hmx := hx.1.max
 have hmw := hw.1.max
 have HX := hI hx.1
 have HU := hI hx.2
 have HW := hI hw.1
 have HWU := hI hw.2
 have HT := hI hT
 clear hx hw hT
 go_enter Tryz.func4, Tryz.ntmps4
 go_wp2_with fail
 refine (few_c A n c xs 5 A' n' c' wss w HX.out HW.out).mono ?_
 rintro e w1 ⟨⟨b, rfl, _⟩, hB1⟩
 cases b with
 | false =>
  go_wp2_with fail
  refine (works12_c _ (HT.out.below hB1 rr)).mono ?_
  rintro e w9 ⟨rfl, hbw⟩
  go_wp2
  go_ret
  exact ⟨rfl, hB1.trans (hbw.mono hB1.size)⟩
 | true =>
  go_wp2_with fail
  refine (blocks_c A n c xs A' n' c' wss w1 (HX.out.below hB1 rr) (HW.out.below hB1 rr) (HT.out.below hB1 rr)).mono ?_
  obtain ⟨r, hr⟩ : ∃ r, r = blocksM (lawsD xs) wss := ⟨_, rfl⟩
  rw [← hr]
  have HR := hI hr; clear hr
  rintro e w2 ⟨A2, n2, c2, rfl, hi2, hb2⟩
  have hB2 := hB1.trans (hb2.mono hB1.size)
  clear hb2
  have HI2 := hI hi2; clear hi2
  go_wp2_with fail
  refine (r12Blocks_c A n c xs A' n' c' wss w2 (HX.out.below hB2 rr) (HW.out.below hB2 rr) HU.out HWU.out).mono ?_
  rw [← HR.out]
  rintro e w3 ⟨A3, n3, c3, rfl, hi3, hb3⟩
  have hB3 := hB2.trans (hb3.mono hB2.size)
  have HI2' := hI (HI2.out.below hb3 rr)
  clear hb3
  have HI3 := hI hi3; clear hi3
  go_wp2_with fail
  refine (ints12_c A2 A3 n2 n3 c2 c3 _ _ w3 HI2'.out HI3.out).mono ?_
  rintro e w4 ⟨rfl, hb4⟩
  have hB4 := hB3.trans (hb4.mono hB3.size)
  clear hb4
  rw [decide_eq_true rfl]
  go_wp2_with fail
  refine (works12_c _ (HT.out.below hB4 rr)).mono ?_
  rintro e w9 ⟨rfl, hbw⟩
  go_wp2
  go_ret
  exact ⟨rfl, hB4.trans (hbw.mono hB4.size)⟩
end Go.Proofs.YtgfjlflbhipliaaGreatDoor

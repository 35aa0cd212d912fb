/-
  ablautlaw29.ParadigmLabels is true.
-/
import Derived.Test.YtcpcojgmmpnkoaaGreatDoorG71
import Derived.Test.YtcpcojgmmpnkoaaGreatDoorG67
import Derived.Test.YtcpcojgmmpnkoaaGreatDoorG18
set_option linter.unusedVariables false
set_option linter.unusedSimpArgs false
set_option maxRecDepth 100000
set_option maxHeartbeats 4000000
namespace Go.Proofs.YtcpcojgmmpnkoaaGreatDoor
open Go.RowKit Go.Shelf
theorem parLabels_c (A : Option Addr) (n c : Nat) (T : List (List Frm)) (row : Int) (cp cm : Int) (w : World) (hx : IsPar w A n c T ∧ ParU T) (hr : -9223372036854775808 ≤ row ∧ row ≤ 9223372036854775807) (hc : SndU (cp, cm)) (hT : TabOK w) :
  Calls Tryz.prog 7 #[.slice A n c, .int .i64 row, sndV cp cm] w (RetTrue w) := by
 have hmx := hx.1.max
 have HX := hI hx.1
 have HU := hI hx.2
 have HT := hI hT
 have HCU := hI hc
 have HR := hI hr
 clear hx hT hc hr
 have hb0 : Below w.heap.size w (w.alloc (.cells #[.int .u32 cp, .int .u32 cm] 24)) := bel
 have hk0 : (w.alloc (.cells #[.int .u32 cp, .int .u32 cm] 24)).heap[w.heap.size]? = some (.cells #[.int .u32 cp, .int .u32 cm] 24 (0, 0)) := hpt
 go_enter Tryz.func7, Tryz.ntmps7
 go_wp2_with fail
 generalize (w.alloc (.cells #[.int .u32 cp, .int .u32 cm] 24)) = V0 at *
 obtain ⟨bp, hbp⟩ : ∃ bp, bp = w.heap.size := ⟨_, rfl⟩
 rw [← hbp] at hk0 ⊢
 clear hbp
 have HK0 := hI hk0
 clear hk0
 refine (light29_c A n c T V0 (HX.out.below hb0 rr)).mono ?_
 rintro e w1 ⟨⟨b, rfl, hok⟩, hb1⟩
 have hB1 := hb0.trans (hb1.mono hb0.size)
 cases b with
 | false => go_wp2_with fail
            refine (works29_c _ (HT.out.below hB1 rr)).mono ?_
            rintro e w9 ⟨rfl, hbw⟩
            go_wp2
            go_ret
            exact ⟨rfl, hB1.trans (hbw.mono hB1.size)⟩
 | true =>
  have HOK : Hid (LightOK T) := hok rfl
  have hk1 := (hb1.block bp (lt_of_block HK0.out)).trans HK0.out
  have HB1 := hI hB1
  clear hok hb1 hb0 hB1
  have HK1 := hI hk1; clear hk1
  go_wp2_with fail
  refine (copied29_c A n c T w1 (HX.out.below HB1.out rr) HOK.out).mono ?_
  rintro e w2 ⟨A2, n2, c2, rfl, hp2, hb2⟩
  have HP2 := hI hp2
  have HK2 := hI ((hb2.block bp (lt_of_block HK1.out)).trans HK1.out)
  have HB2 := hI (HB1.out.trans (hb2.mono HB1.out.size))
  clear hb2 hp2
  go_wp2_with fail
  refine (pSame_c A2 n2 c2 T row w2 HP2.out HR.out).mono ?_
  obtain ⟨r1, hr1⟩ : ∃ r, r = pSameM T row := ⟨_, rfl⟩
  rw [← hr1]
  have HR1 := hI hr1; clear hr1
  rintro e w3 ⟨A3, n3, c3, rfl, hi3, hb3⟩
  have HI3 := hI hi3
  have HK3 := hI ((hb3.block bp (lt_of_block HK2.out)).trans HK2.out)
  have HP3 := hI (HP2.out.below hb3 rr)
  have HB3 := hI (HB2.out.trans (hb3.mono HB2.out.size))
  clear hb3 hi3
  go_wp2_with fail
  refine (r29Same_c A n c T row w3 (HX.out.below HB3.out rr) HU.out HR.out).mono ?_
  rw [← HR1.out]
  rintro e w4 ⟨A4, n4, c4, rfl, hi4, hb4⟩
  have HI4 := hI hi4
  have HK4 := hI ((hb4.block bp (lt_of_block HK3.out)).trans HK3.out)
  have HP4 := hI (HP3.out.below hb4 rr)
  have HI34 := hI (HI3.out.below hb4 rr)
  have HB4 := hI (HB3.out.trans (hb4.mono HB3.out.size))
  clear hb4 hi4
  have k0 : w4.cell? ⟨bp, 0, none⟩ = some (.int .u32 cp) := cell_at_heap HK4.out rfl
  have k1 : w4.cell? ⟨bp, 1, none⟩ = some (.int .u32 cm) := cell_at_heap HK4.out rfl
  go_wp2_with fail
  clear k0 k1
  refine (pGrades_c A2 n2 c2 T row cp cm w4 HP4.out HR.out).mono ?_
  obtain ⟨r2, hr2⟩ : ∃ r, r = pGradesM T row (cp, cm) := ⟨_, rfl⟩
  rw [← hr2]
  have HR2 := hI hr2; clear hr2
  rintro e w5 ⟨A5, n5, c5, rfl, hi5, hb5⟩
  have HI5 := hI hi5
  have HK5 := hI ((hb5.block bp (lt_of_block HK4.out)).trans HK4.out)
  have HP5 := hI (HP4.out.below hb5 rr)
  have HI35 := hI (HI34.out.below hb5 rr)
  have HI45 := hI (HI4.out.below hb5 rr)
  have HB5 := hI (HB4.out.trans (hb5.mono HB4.out.size))
  clear hb5 hi5
  have k0 : w5.cell? ⟨bp, 0, none⟩ = some (.int .u32 cp) := cell_at_heap HK5.out rfl
  have k1 : w5.cell? ⟨bp, 1, none⟩ = some (.int .u32 cm) := cell_at_heap HK5.out rfl
  go_wp2_with fail
  clear k0 k1
  refine (r29Grades_c A n c T row cp cm w5 (HX.out.below HB5.out rr) HU.out HR.out HCU.out.1 HCU.out.2).mono ?_
  rw [← HR2.out]
  rintro e w6 ⟨A6, n6, c6, rfl, hi6, hb6⟩
  have HI6 := hI hi6
  have HP6 := hI (HP5.out.below hb6 rr)
  have HI36 := hI (HI35.out.below hb6 rr)
  have HI46 := hI (HI45.out.below hb6 rr)
  have HI56 := hI (HI5.out.below hb6 rr)
  have HB6 := hI (HB5.out.trans (hb6.mono HB5.out.size))
  clear hb6 hi6
  go_wp2_with fail
  refine (pClasses_c A2 n2 c2 T w6 HP6.out).mono ?_
  obtain ⟨r3, hr3⟩ : ∃ r, r = pClassM T := ⟨_, rfl⟩
  rw [← hr3]
  have HR3 := hI hr3; clear hr3
  rintro e w7 ⟨A7, n7, c7, rfl, hi7, hb7⟩
  have HI7 := hI hi7
  have HP7 := hI (HP6.out.below hb7 rr)
  have HI37 := hI (HI36.out.below hb7 rr)
  have HI47 := hI (HI46.out.below hb7 rr)
  have HI57 := hI (HI56.out.below hb7 rr)
  have HI67 := hI (HI6.out.below hb7 rr)
  have HB7 := hI (HB6.out.trans (hb7.mono HB6.out.size))
  clear hb7 hi7
  go_wp2_with fail
  refine (r29Classes_c A n c T w7 (HX.out.below HB7.out rr) HU.out).mono ?_
  rw [← HR3.out]
  rintro e w8 ⟨A8, n8, c8, rfl, hi8, hb8⟩
  have HI8 := hI hi8
  have HP8 := hI (HP7.out.below hb8 rr)
  have HI38 := hI (HI37.out.below hb8 rr)
  have HI48 := hI (HI47.out.below hb8 rr)
  have HI58 := hI (HI57.out.below hb8 rr)
  have HI68 := hI (HI67.out.below hb8 rr)
  have HI78 := hI (HI7.out.below hb8 rr)
  have HB8 := hI (HB7.out.trans (hb8.mono HB7.out.size))
  clear hb8 hi8
  go_wp2_with fail
  refine (equal29_c A3 A4 n3 n4 c3 c4 _ _ w8 HI38.out HI48.out).mono ?_
  rintro e y1 ⟨rfl, hy1⟩
  rw [decide_eq_true rfl]
  go_wp2_with fail
  refine (equal29_c A5 A6 n5 n6 c5 c6 _ _ y1 (HI58.out.below hy1 rr) (HI68.out.below hy1 rr)).mono ?_
  rintro e y2 ⟨rfl, hy2'⟩
  rw [decide_eq_true rfl]
  have hy2 := hy1.trans (hy2'.mono hy1.size)
  clear hy1 hy2'
  go_wp2_with fail
  refine (equal29_c A7 A8 n7 n8 c7 c8 _ _ y2 (HI78.out.below hy2 rr) (HI8.out.below hy2 rr)).mono ?_
  rintro e y3 ⟨rfl, hy3'⟩
  rw [decide_eq_true rfl]
  have hy3 := hy2.trans (hy3'.mono hy2.size)
  have hB9 := HB8.out.trans (hy3.mono HB8.out.size)
  clear hy2 hy3'
  go_wp2_with fail
  refine (same29_c A2 A n2 n c2 c _ _ y3 (HP8.out.below hy3 rr) (HX.out.below hB9 rr)).mono ?_
  rintro e y4 ⟨rfl, hy4'⟩
  rw [decide_eq_true rfl]
  have hB10 := hB9.trans (hy4'.mono hB9.size)
  clear hy4' hy3
  go_wp2_with fail
  refine (works29_c _ (HT.out.below hB10 rr)).mono ?_
  rintro e w9 ⟨rfl, hbw⟩
  go_wp2
  go_ret
  exact ⟨rfl, hB10.trans (hbw.mono hB10.size)⟩
end Go.Proofs.YtcpcojgmmpnkoaaGreatDoor

/-
  ablautlaw38.WaveKnown is true.
-/
import Derived.Deep.Cut
import Derived.Test.YtaglfmlgbcmakaaGreatDoorXT38P
import Derived.Test.YtaglfmlgbcmakaaGreatDoorXT38U
import Derived.Test.YtaglfmlgbcmakaaGreatDoorXT38V
set_option linter.all false
set_option maxRecDepth 100000
set_option maxHeartbeats 4000000
namespace Go.Proofs.YtaglfmlgbcmakaaGreatDoor
open Go.RowKit Go.Shelf
attribute [local go_sem] run_mk_w65 run_mk_l65 run_mk_l64 run_mk_s32
theorem waveKnown_c (w : World) (hT : TabOK w) : Calls Tryz.prog 14 #[] w (RetTrue w) := by
 have HT := hI hT
 clear hT
 go_enter Tryz.func14, Tryz.ntmps14
 go_wp2_with fail
 refine (example38_c w).mono ?_
 rintro e w1 ⟨b, Al, xs, Aw, ys, rfl, hm, hl, hld, hw, hwd, hb1⟩
 have HS : Hid (KnS w b Al xs Aw ys w1) := ⟨hm, hl, hw, HT.out.below hb1 rr, hb1⟩
 have HLD := hI hld
 have HYD := hI hwd
 clear hm hl hld hw hwd hb1 HT
 go_wp2_with fail
 refine (exA_c w1).mono ?_
 rintro e w2 ⟨rfl, hb⟩
 replace HS := hI (HS.out.step hb)
 clear hb
 go_wp2_with fail
 refine (exP_c w2).mono ?_
 rintro e w3 ⟨rfl, hb⟩
 replace HS := hI (HS.out.step hb)
 clear hb
 go_wp2_with fail
 refine (exA_c w3).mono ?_
 rintro e w4 ⟨rfl, hb⟩
 replace HS := hI (HS.out.step hb)
 clear hb
 go_wp2_with fail
 have hwa : IsWord (w4.alloc (.cells #[.int .u32 sA.1, .int .u32 sA.2, .int .u32 sP.1, .int .u32 sP.2, .int .u32 sA.1, .int .u32 sA.2] 49)) (some ⟨w4.heap.size, 0, none⟩) 3 3 [sA, sP, sA] := builtC w4 (wcells [sA, sP, sA]) _ 3 2 rfl (by decide)
 have hb : Below w4.heap.size w4 (w4.alloc (.cells #[.int .u32 sA.1, .int .u32 sA.2, .int .u32 sP.1, .int .u32 sP.2, .int .u32 sA.1, .int .u32 sA.2] 49)) := (Below.refl _ w4).alloc rr _
 have hsz : (w4.alloc (.cells #[.int .u32 sA.1, .int .u32 sA.2, .int .u32 sP.1, .int .u32 sP.2, .int .u32 sA.1, .int .u32 sA.2] 49)).heap.size = w4.heap.size + 1 := by simp
 rw [← hsz]
 replace HS := hI (HS.out.step hb)
 obtain ⟨ba, hba⟩ : ∃ x, x = w4.heap.size := ⟨_, rfl⟩
 rw [← hba] at hwa ⊢
 clear hsz hb hba
 generalize w4.alloc (.cells #[.int .u32 sA.1, .int .u32 sA.2, .int .u32 sP.1, .int .u32 sP.2, .int .u32 sA.1, .int .u32 sA.2] 49) = V1 at *
 have hwb : IsWord (V1.alloc (.cells #[.int .u32 1, .int .u32 1] 49)) (some ⟨V1.heap.size, 0, none⟩) 1 1 [sBad] := builtC V1 (wcells [sBad]) _ 1 2 rfl (by decide)
 have hb : Below V1.heap.size V1 (V1.alloc (.cells #[.int .u32 1, .int .u32 1] 49)) := (Below.refl _ V1).alloc rr _
 replace HS := hI (HS.out.step hb)
 have HWA := hI (hwa.below hb rr)
 have HWB := hI hwb
 obtain ⟨bb, hbb⟩ : ∃ x, x = V1.heap.size := ⟨_, rfl⟩
 rw [← hbb] at HWB ⊢
 clear hb hwa hwb hbb
 generalize V1.alloc (.cells #[.int .u32 1, .int .u32 1] 49) = V2 at *
 have HR := hI (relicsP_c 1 (mp_of HS.out.m) HS.out.l HS.out.v HS.out.t)
 rw [HLD.out, HYD.out, kn_rel1] at HR
 refine HR.out.mono ?_
 clear HR
 rintro e W1 ⟨A1, n1, c1, rfl, hi, hb⟩
 have HI1 := hI hi
 replace HS := hI (HS.out.step hb)
 replace HWA := hI (HWA.out.below hb rr)
 replace HWB := hI (HWB.out.below hb rr)
 clear hi hb
 go_wp2_with fail
 have HR := hI (relicsP_c 2 (mp_of HS.out.m) HS.out.l HS.out.v HS.out.t)
 rw [HLD.out, HYD.out, kn_rel2] at HR
 refine HR.out.mono ?_
 clear HR
 rintro e W2 ⟨A2, n2, c2, rfl, hi, hb⟩
 replace HI1 := hI (Cells.below HI1.out hb rr)
 replace HS := hI (HS.out.step hb)
 replace HWA := hI (HWA.out.below hb rr)
 replace HWB := hI (HWB.out.below hb rr)
 clear hi hb
 go_wp2_with fail
 have HR := hI (crossedP_c 1 0 (mp_of HS.out.m) HS.out.l HS.out.v HS.out.t)
 rw [HLD.out, HYD.out, kn_cross] at HR
 refine HR.out.mono ?_
 clear HR
 rintro e W3 ⟨A3, n3, c3, rfl, hi, hb⟩
 have HI3 := hI hi
 replace HI1 := hI (Cells.below HI1.out hb rr)
 replace HS := hI (HS.out.step hb)
 replace HWA := hI (HWA.out.below hb rr)
 replace HWB := hI (HWB.out.below hb rr)
 clear hi hb
 go_wp2_with fail
 have HR := hI (valuesP_c 12 (mp_of HS.out.m) HS.out.l HS.out.v HWA.out HS.out.t (.inl (by omega)))
 rw [HLD.out, HYD.out, kn_vals] at HR
 refine HR.out.mono ?_
 clear HR HWA
 rintro e W4 ⟨A4, n4, c4, rfl, hi, hb⟩
 have HI4 := hI hi
 replace HI1 := hI (Cells.below HI1.out hb rr)
 replace HI3 := hI (Cells.below HI3.out hb rr)
 replace HS := hI (HS.out.step hb)
 replace HWB := hI (HWB.out.below hb rr)
 clear hi hb
 go_wp2_with fail
 have HR := hI (lineP_c 1 11 (mp_of HS.out.m) HS.out.l HS.out.v HS.out.t (.inl (by omega)))
 rw [HLD.out, HYD.out, kn_line11] at HR
 refine HR.out.mono ?_
 clear HR
 rintro e W5 ⟨A5, n5, c5, rfl, hi, hb⟩
 have HI5 := hI hi
 replace HI1 := hI (Cells.below HI1.out hb rr)
 replace HI3 := hI (Cells.below HI3.out hb rr)
 replace HI4 := hI (Cells.below HI4.out hb rr)
 replace HS := hI (HS.out.step hb)
 replace HWB := hI (HWB.out.below hb rr)
 clear hi hb
 go_wp2_with fail
 have HR := hI (lineP_c 1 12 (mp_of HS.out.m) HS.out.l HS.out.v HS.out.t (.inl (by omega)))
 rw [HLD.out, HYD.out, kn_line12] at HR
 refine HR.out.mono ?_
 clear HR
 rintro e W6 ⟨A6, n6, c6, rfl, hi, hb⟩
 have HI6 := hI hi
 replace HI1 := hI (Cells.below HI1.out hb rr)
 replace HI3 := hI (Cells.below HI3.out hb rr)
 replace HI4 := hI (Cells.below HI4.out hb rr)
 replace HI5 := hI (Cells.below HI5.out hb rr)
 replace HS := hI (HS.out.step hb)
 replace HWB := hI (HWB.out.below hb rr)
 clear hi hb
 go_wp2_with fail
 have hj : IsInts (W6.alloc (.cells #[.int .i64 0, .int .i64 4] 3)) (some ⟨W6.heap.size, 0, none⟩) 2 2 [0, 4] := builtC W6 [.int .i64 0, .int .i64 4] _ 2 1 rfl (by decide)
 have hb : Below W6.heap.size W6 (W6.alloc (.cells #[.int .i64 0, .int .i64 4] 3)) := (Below.refl _ W6).alloc rr _
 refine (numbers38_c A1 _ n1 _ c1 _ [0, 4] [0, 4] _ (Cells.below HI1.out hb rr) hj).mono ?_
 rw [show decide (([0, 4] : List Int) = [0, 4]) = true from decide_eq_true rfl]
 rintro e X0 ⟨rfl, hb2⟩
 replace hb := hb.trans (hb2.mono hb.size)
 replace HI3 := hI (Cells.below HI3.out hb rr)
 replace HI4 := hI (Cells.below HI4.out hb rr)
 replace HI5 := hI (Cells.below HI5.out hb rr)
 replace HI6 := hI (Cells.below HI6.out hb rr)
 replace HS := hI (HS.out.step hb)
 replace HWB := hI (HWB.out.below hb rr)
 clear hj hb hb2 HI1
 go_wp2_with fail
 have hj : IsInts (X0.alloc (.cells #[.int .i64 2, .int .i64 3] 3)) (some ⟨X0.heap.size, 0, none⟩) 2 2 [2, 3] := builtC X0 [.int .i64 2, .int .i64 3] _ 2 1 rfl (by decide)
 have hb : Below X0.heap.size X0 (X0.alloc (.cells #[.int .i64 2, .int .i64 3] 3)) := (Below.refl _ X0).alloc rr _
 refine (numbers38_c A3 _ n3 _ c3 _ [2, 3] [2, 3] _ (Cells.below HI3.out hb rr) hj).mono ?_
 rw [show decide (([2, 3] : List Int) = [2, 3]) = true from decide_eq_true rfl]
 rintro e X1 ⟨rfl, hb2⟩
 replace hb := hb.trans (hb2.mono hb.size)
 replace HI4 := hI (Cells.below HI4.out hb rr)
 replace HI5 := hI (Cells.below HI5.out hb rr)
 replace HI6 := hI (Cells.below HI6.out hb rr)
 replace HS := hI (HS.out.step hb)
 replace HWB := hI (HWB.out.below hb rr)
 clear hj hb hb2 HI3
 go_wp2_with fail
 have hj : IsInts (X1.alloc (.cells #[.int .i64 0, .int .i64 1, .int .i64 2, .int .i64 2, .int .i64 4] 3)) (some ⟨X1.heap.size, 0, none⟩) 5 5 [0, 1, 2, 2, 4] := builtC X1 [.int .i64 0, .int .i64 1, .int .i64 2, .int .i64 2, .int .i64 4] _ 5 1 rfl (by decide)
 have hb : Below X1.heap.size X1 (X1.alloc (.cells #[.int .i64 0, .int .i64 1, .int .i64 2, .int .i64 2, .int .i64 4] 3)) := (Below.refl _ X1).alloc rr _
 refine (numbers38_c A4 _ n4 _ c4 _ [0, 1, 2, 2, 4] [0, 1, 2, 2, 4] _ (Cells.below HI4.out hb rr) hj).mono ?_
 rw [show decide (([0, 1, 2, 2, 4] : List Int) = [0, 1, 2, 2, 4]) = true from decide_eq_true rfl]
 rintro e X2 ⟨rfl, hb2⟩
 replace hb := hb.trans (hb2.mono hb.size)
 replace HI5 := hI (Cells.below HI5.out hb rr)
 replace HI6 := hI (Cells.below HI6.out hb rr)
 replace HS := hI (HS.out.step hb)
 replace HWB := hI (HWB.out.below hb rr)
 clear hj hb hb2 HI4
 go_wp2_with fail
 have hj : IsInts (X2.alloc (.cells #[.int .i64 0] 3)) (some ⟨X2.heap.size, 0, none⟩) 1 1 [0] := builtC X2 [.int .i64 0] _ 1 1 rfl (by decide)
 have hb : Below X2.heap.size X2 (X2.alloc (.cells #[.int .i64 0] 3)) := (Below.refl _ X2).alloc rr _
 refine (numbers38_c A5 _ n5 _ c5 _ [0] [0] _ (Cells.below HI5.out hb rr) hj).mono ?_
 rw [show decide (([0] : List Int) = [0]) = true from decide_eq_true rfl]
 rintro e X3 ⟨rfl, hb2⟩
 replace hb := hb.trans (hb2.mono hb.size)
 replace HI6 := hI (Cells.below HI6.out hb rr)
 replace HS := hI (HS.out.step hb)
 replace HWB := hI (HWB.out.below hb rr)
 clear hj hb hb2 HI5
 go_wp2_with fail
 have hj : IsInts (X3.alloc (.cells #[.int .i64 0, .int .i64 1] 3)) (some ⟨X3.heap.size, 0, none⟩) 2 2 [0, 1] := builtC X3 [.int .i64 0, .int .i64 1] _ 2 1 rfl (by decide)
 have hb : Below X3.heap.size X3 (X3.alloc (.cells #[.int .i64 0, .int .i64 1] 3)) := (Below.refl _ X3).alloc rr _
 refine (numbers38_c A6 _ n6 _ c6 _ [0, 1] [0, 1] _ (Cells.below HI6.out hb rr) hj).mono ?_
 rw [show decide (([0, 1] : List Int) = [0, 1]) = true from decide_eq_true rfl]
 rintro e X4 ⟨rfl, hb2⟩
 replace hb := hb.trans (hb2.mono hb.size)
 replace HS := hI (HS.out.step hb)
 replace HWB := hI (HWB.out.below hb rr)
 clear hj hb hb2 HI6
 go_wp2_with fail
 refine (new_c none 0 0 [] none 0 0 [] X4 (Cells.nil _ _) ⟨Cells.nil _ _, rfl⟩).mono ?_
 rintro e Y1 ⟨⟨h0, -⟩ | ⟨-, be, rfl, hmp⟩, hb⟩
 ·exact absurd kn_new0 h0
 have HMP : Hid (MapAt Y1 be 0 []) := hmp
 replace HS := hI (HS.out.step hb)
 replace HWB := hI (HWB.out.below hb rr)
 clear hmp hb
 go_wp2_with fail
 have hmw := mk_waves Y1 65 (by omega)
 have hb : Below Y1.heap.size Y1 (Y1.alloc (.cells (wavesC 65).toArray 38)) := (Below.refl _ Y1).alloc rr _
 have hsz : (Y1.alloc (.cells (wavesC 65).toArray 38)).heap.size = Y1.heap.size + 1 := by simp
 rw [← hsz]
 replace HS := hI (HS.out.step hb)
 replace HWB := hI (HWB.out.below hb rr)
 replace HMP := hI (HMP.out.below hb)
 have HMW := hI hmw
 obtain ⟨bw, hbw⟩ : ∃ x, x = Y1.heap.size := ⟨_, rfl⟩
 rw [← hbw] at HMW ⊢
 clear hsz hb hbw hmw
 generalize Y1.alloc (.cells (wavesC 65).toArray 38) = Y2 at *
 have hml := mk_lawsK Y2 65 (by omega)
 have hb : Below Y2.heap.size Y2 (Y2.alloc (.cells (lawsC 65).toArray 55)) := (Below.refl _ Y2).alloc rr _
 refine (wcheck0_c _ _ _ _ _ _ _).mono ?_
 rintro e Y3 ⟨rfl, hb2⟩
 replace hb := hb.trans (hb2.mono hb.size)
 replace HS := hI (HS.out.step hb)
 replace HWB := hI (HWB.out.below hb rr)
 replace HMP := hI (HMP.out.below hb)
 replace HMW := hI (HMW.out.below hb)
 clear hml hb hb2
 go_wp2_with fail
 have hb : Below Y3.heap.size Y3 (Y3.alloc (.cells #[.slice none 0 0, .map none, .slice none 0 0, .slice none 0 0] 99)) := (Below.refl _ Y3).alloc rr _
 refine (wcheckZ_c _ _ _ _ _ _ _ _ (cell_new_at rfl)).mono ?_
 rintro e Y4 ⟨rfl, hb2⟩
 replace hb := hb.trans (hb2.mono hb.size)
 replace HS := hI (HS.out.step hb)
 replace HWB := hI (HWB.out.below hb rr)
 replace HMP := hI (HMP.out.below hb)
 replace HMW := hI (HMW.out.below hb)
 clear hb hb2
 go_wp2_with fail
 have HR := hI (wcheckP_c (ys := []) (mp_of HMP.out) HS.out.l ⟨⟨Cells.nil _ _, rfl⟩, fun y hy => by cases hy⟩ HS.out.t)
 rw [wave_none] at HR
 refine HR.out.mono ?_
 clear HR HMP
 rintro e Y5 ⟨rfl, hb⟩
 replace HS := hI (HS.out.step hb)
 replace HWB := hI (HWB.out.below hb rr)
 replace HMW := hI (HMW.out.below hb)
 clear hb
 go_wp2_with fail
 have hml := mk_lawsK Y5 65 (by omega)
 have hb : Below Y5.heap.size Y5 (Y5.alloc (.cells (lawsC 65).toArray 55)) := (Below.refl _ Y5).alloc rr _
 have HR := hI (wcheckP_c (mp_of (HS.out.step hb).m) hml (HMW.out.below hb) (HS.out.step hb).t)
 rw [lawsD_rep, kn_c4] at HR
 refine HR.out.mono ?_
 clear HR
 rintro e Y6 ⟨rfl, hb2⟩
 replace hb := hb.trans (hb2.mono hb.size)
 replace HS := hI (HS.out.step hb)
 replace HWB := hI (HWB.out.below hb rr)
 replace HMW := hI (HMW.out.below hb)
 clear hb hb2 hml
 go_wp2_with fail
 have hml := mk_lawsK Y6 64 (by omega)
 have hb : Below Y6.heap.size Y6 (Y6.alloc (.cells (lawsC 64).toArray 55)) := (Below.refl _ Y6).alloc rr _
 have HR := hI (wcheckP_c (mp_of (HS.out.step hb).m) hml (HMW.out.below hb) (HS.out.step hb).t)
 rw [lawsD_rep, kn_c5] at HR
 refine HR.out.mono ?_
 clear HR
 rintro e Y7 ⟨rfl, hb2⟩
 replace hb := hb.trans (hb2.mono hb.size)
 replace HS := hI (HS.out.step hb)
 replace HWB := hI (HWB.out.below hb rr)
 replace HMW := hI (HMW.out.below hb)
 clear hb hb2 hml
 go_wp2_with fail
 have HR := hI (wcheckP_c (mp_of HS.out.m) HS.out.l HMW.out HS.out.t)
 rw [HLD.out, wavesD_rep, kn_c6] at HR
 refine HR.out.mono ?_
 clear HR
 rintro e Y8 ⟨rfl, hb⟩
 replace HS := hI (HS.out.step hb)
 replace HWB := hI (HWB.out.below hb rr)
 replace HMW := hI (HMW.out.below hb)
 clear hb
 go_wp2_with fail
 have HR := hI (wcheckP_c (mp_of HS.out.m) HS.out.l (HMW.out.take (k := 64) (by omega)) HS.out.t)
 rw [HLD.out, show (List.replicate 65 zeroWR).take 64 = List.replicate 64 zeroWR from rfl, wavesD_rep, kn_c7] at HR
 refine HR.out.mono ?_
 clear HR HMW
 rintro e Y9 ⟨rfl, hb⟩
 replace HS := hI (HS.out.step hb)
 replace HWB := hI (HWB.out.below hb rr)
 clear hb
 go_wp2_with fail
 have HR := hI (wcheckP_c (xs := []) (ys := []) (mp_of HS.out.m) ⟨⟨Cells.nil _ _, rfl⟩, fun y hy => by cases hy⟩ ⟨⟨Cells.nil _ _, rfl⟩, fun y hy => by cases hy⟩ HS.out.t)
 rw [show lawsD [] = [] from rfl, show wavesD [] = [] from rfl, kn_c8] at HR
 refine HR.out.mono ?_
 clear HR
 rintro e Z1 ⟨rfl, hb⟩
 replace HS := hI (HS.out.step hb)
 replace HWB := hI (HWB.out.below hb rr)
 clear hb
 go_wp2_with fail
 have hz : IsInts (Z1.alloc (.cells #[.int .i64 5] 3)) (some ⟨Z1.heap.size, 0, none⟩) 1 1 [5] := builtC Z1 [.int .i64 5] _ 1 1 rfl (by decide)
 have hb : Below Z1.heap.size Z1 (Z1.alloc (.cells #[.int .i64 5] 3)) := (Below.refl _ Z1).alloc rr _
 have hsz : (Z1.alloc (.cells #[.int .i64 5] 3)).heap.size = Z1.heap.size + 1 := by simp
 rw [← hsz]
 replace HS := hI (HS.out.step hb)
 replace HWB := hI (HWB.out.below hb rr)
 have HC0 := hI hz
 obtain ⟨p0, hp⟩ : ∃ x, x = Z1.heap.size := ⟨_, rfl⟩
 rw [← hp] at HC0 ⊢
 clear hz hb hsz hp
 generalize Z1.alloc (.cells #[.int .i64 5] 3) = N0 at *
 have hz : IsInts (N0.alloc (.cells #[.int .i64 1, .int .i64 1, .int .i64 5] 3)) (some ⟨N0.heap.size, 0, none⟩) 3 3 [1, 1, 5] := builtC N0 [.int .i64 1, .int .i64 1, .int .i64 5] _ 3 1 rfl (by decide)
 have hb : Below N0.heap.size N0 (N0.alloc (.cells #[.int .i64 1, .int .i64 1, .int .i64 5] 3)) := (Below.refl _ N0).alloc rr _
 have hsz : (N0.alloc (.cells #[.int .i64 1, .int .i64 1, .int .i64 5] 3)).heap.size = N0.heap.size + 1 := by simp
 rw [← hsz]
 replace HC0 := hI (Cells.below HC0.out hb rr)
 replace HS := hI (HS.out.step hb)
 replace HWB := hI (HWB.out.below hb rr)
 have HC1 := hI hz
 obtain ⟨p1, hp⟩ : ∃ x, x = N0.heap.size := ⟨_, rfl⟩
 rw [← hp] at HC1 ⊢
 clear hz hb hsz hp
 generalize N0.alloc (.cells #[.int .i64 1, .int .i64 1, .int .i64 5] 3) = N1 at *
 have hz : IsInts (N1.alloc (.cells #[.int .i64 1, .int .i64 (-1), .int .i64 1] 3)) (some ⟨N1.heap.size, 0, none⟩) 3 3 [1, -1, 1] := builtC N1 [.int .i64 1, .int .i64 (-1), .int .i64 1] _ 3 1 rfl (by decide)
 have hb : Below N1.heap.size N1 (N1.alloc (.cells #[.int .i64 1, .int .i64 (-1), .int .i64 1] 3)) := (Below.refl _ N1).alloc rr _
 have hsz : (N1.alloc (.cells #[.int .i64 1, .int .i64 (-1), .int .i64 1] 3)).heap.size = N1.heap.size + 1 := by simp
 rw [← hsz]
 replace HC0 := hI (Cells.below HC0.out hb rr)
 replace HC1 := hI (Cells.below HC1.out hb rr)
 replace HS := hI (HS.out.step hb)
 replace HWB := hI (HWB.out.below hb rr)
 have HC2 := hI hz
 obtain ⟨p2, hp⟩ : ∃ x, x = N1.heap.size := ⟨_, rfl⟩
 rw [← hp] at HC2 ⊢
 clear hz hb hsz hp
 generalize N1.alloc (.cells #[.int .i64 1, .int .i64 (-1), .int .i64 1] 3) = N2 at *
 have hz : IsInts (N2.alloc (.cells #[.int .i64 1, .int .i64 0] 3)) (some ⟨N2.heap.size, 0, none⟩) 2 2 [1, 0] := builtC N2 [.int .i64 1, .int .i64 0] _ 2 1 rfl (by decide)
 have hb : Below N2.heap.size N2 (N2.alloc (.cells #[.int .i64 1, .int .i64 0] 3)) := (Below.refl _ N2).alloc rr _
 have hsz : (N2.alloc (.cells #[.int .i64 1, .int .i64 0] 3)).heap.size = N2.heap.size + 1 := by simp
 rw [← hsz]
 replace HC0 := hI (Cells.below HC0.out hb rr)
 replace HC1 := hI (Cells.below HC1.out hb rr)
 replace HC2 := hI (Cells.below HC2.out hb rr)
 replace HS := hI (HS.out.step hb)
 replace HWB := hI (HWB.out.below hb rr)
 have HC3 := hI hz
 obtain ⟨p3, hp⟩ : ∃ x, x = N2.heap.size := ⟨_, rfl⟩
 rw [← hp] at HC3 ⊢
 clear hz hb hsz hp
 generalize N2.alloc (.cells #[.int .i64 1, .int .i64 0] 3) = N3 at *
 have hkc : KnC (N3.alloc (.cells #[.int .i64 2, .slice (some ⟨p0, 0, none⟩) 1 1, .int .i64 (-1), .int .i64 0, .int .i64 0, .int .i64 3, .int .i64 3, .int .i64 (-1), .slice none 0 0, .int .i64 0, .int .i64 0, .int .i64 0, .int .i64 3, .int .i64 0, .int .i64 0, .slice (some ⟨p1, 0, none⟩) 3 3, .int .i64 0, .int .i64 (-1), .int .i64 0, .int .i64 6, .int .i64 6, .int .i64 0, .slice (some ⟨p2, 0, none⟩) 3 3, .int .i64 0, .int .i64 0, .int .i64 0, .int .i64 3, .int .i64 3, .int .i64 0, .slice (some ⟨p3, 0, none⟩) 2 2, .int .i64 0, .int .i64 (-1), .int .i64 0, .int .i64 2, .int .i64 2, .int .i64 0, .slice none 0 0, .int .i64 1073741825, .int .i64 0, .int .i64 0, .int .i64 2, .int .i64 2, .int .i64 0, .slice none 0 0, .int .i64 1073741824, .int .i64 1073741824, .int .i64 (-9223372036854775808), .int .i64 0, .int .i64 0, .int .i64 0, .slice none 0 0, .int .i64 0, .int .i64 1073741825, .int .i64 0, .int .i64 2, .int .i64 2] 100)) (some ⟨N3.heap.size, 0, none⟩) (knRows (some ⟨p0, 0, none⟩) (some ⟨p1, 0, none⟩) (some ⟨p2, 0, none⟩) (some ⟨p3, 0, none⟩)) := knRows_c HC0.out HC1.out HC2.out HC3.out
 have hb : Below N3.heap.size N3 (N3.alloc (.cells #[.int .i64 2, .slice (some ⟨p0, 0, none⟩) 1 1, .int .i64 (-1), .int .i64 0, .int .i64 0, .int .i64 3, .int .i64 3, .int .i64 (-1), .slice none 0 0, .int .i64 0, .int .i64 0, .int .i64 0, .int .i64 3, .int .i64 0, .int .i64 0, .slice (some ⟨p1, 0, none⟩) 3 3, .int .i64 0, .int .i64 (-1), .int .i64 0, .int .i64 6, .int .i64 6, .int .i64 0, .slice (some ⟨p2, 0, none⟩) 3 3, .int .i64 0, .int .i64 0, .int .i64 0, .int .i64 3, .int .i64 3, .int .i64 0, .slice (some ⟨p3, 0, none⟩) 2 2, .int .i64 0, .int .i64 (-1), .int .i64 0, .int .i64 2, .int .i64 2, .int .i64 0, .slice none 0 0, .int .i64 1073741825, .int .i64 0, .int .i64 0, .int .i64 2, .int .i64 2, .int .i64 0, .slice none 0 0, .int .i64 1073741824, .int .i64 1073741824, .int .i64 (-9223372036854775808), .int .i64 0, .int .i64 0, .int .i64 0, .slice none 0 0, .int .i64 0, .int .i64 1073741825, .int .i64 0, .int .i64 2, .int .i64 2] 100)) := (Below.refl _ N3).alloc rr _
 replace HS := hI (HS.out.step hb)
 replace HWB := hI (HWB.out.below hb rr)
 have HKC := hI hkc
 obtain ⟨pc, hpc⟩ : ∃ x, x = N3.heap.size := ⟨_, rfl⟩
 rw [← hpc] at HKC ⊢
 clear hb hkc hpc HC0 HC1 HC2 HC3
 generalize N3.alloc (.cells #[.int .i64 2, .slice (some ⟨p0, 0, none⟩) 1 1, .int .i64 (-1), .int .i64 0, .int .i64 0, .int .i64 3, .int .i64 3, .int .i64 (-1), .slice none 0 0, .int .i64 0, .int .i64 0, .int .i64 0, .int .i64 3, .int .i64 0, .int .i64 0, .slice (some ⟨p1, 0, none⟩) 3 3, .int .i64 0, .int .i64 (-1), .int .i64 0, .int .i64 6, .int .i64 6, .int .i64 0, .slice (some ⟨p2, 0, none⟩) 3 3, .int .i64 0, .int .i64 0, .int .i64 0, .int .i64 3, .int .i64 3, .int .i64 0, .slice (some ⟨p3, 0, none⟩) 2 2, .int .i64 0, .int .i64 (-1), .int .i64 0, .int .i64 2, .int .i64 2, .int .i64 0, .slice none 0 0, .int .i64 1073741825, .int .i64 0, .int .i64 0, .int .i64 2, .int .i64 2, .int .i64 0, .slice none 0 0, .int .i64 1073741824, .int .i64 1073741824, .int .i64 (-9223372036854775808), .int .i64 0, .int .i64 0, .int .i64 0, .slice none 0 0, .int .i64 0, .int .i64 1073741825, .int .i64 0, .int .i64 2, .int .i64 2] 100) = N4 at *
 generalize (knRows (some ⟨p0, 0, none⟩) (some ⟨p1, 0, none⟩) (some ⟨p2, 0, none⟩) (some ⟨p3, 0, none⟩)) = cs at *
 obtain ⟨y0, y1, rfl, hy0, hy1⟩ := two_waves HYD.out
 obtain ⟨yb, yo, hA, -, -, -⟩ := HS.out.v.at_ (k := 0) rfl
 subst hA
 obtain ⟨d0, Aw0, n0, c0⟩ := y0
 obtain rfl : d0 = wv0 := hy0
 clear hy1
 go_loopw [238] (fun s wr => ∃ k : Nat, s = .int .i64 (k : Int) ∧ k ≤ 8 ∧ Hid (KnS w b Al xs (some ⟨yb, yo, none⟩) [⟨wv0, Aw0, n0, c0⟩, y1] wr) ∧ Hid (IsWord wr (some ⟨bb, 0, none⟩) 1 1 [sBad]) ∧ Hid (KnC wr (some ⟨pc, 0, none⟩) cs)) (fun s _ => 8 - (intOf s).toNat)
 case atStart => exact ⟨0, rfl, Nat.zero_le _, HS, HWB, HKC⟩
 case round =>
  clear HS HWB HKC
  obtain ⟨k, rfl, hk, HS, HWB, HKC⟩ := hrel
  by_cases hlt : k < 8
  ·have hlt' : (k : Int) < 8 := by omega
   obtain ⟨⟨⟨⟨law, ps, T, S, fin⟩, Aq, nq, cq⟩, er, fr⟩, pb, po, hA, hpb, hat, hmem, k0, k1, k2, k3, k4, k5, k6⟩ := HKC.out.get hlt
   obtain ⟨rfl, rfl⟩ : pc = pb ∧ 0 = po := by injection hA with h; injection h with h1 h2; exact ⟨h1, h2⟩
   have HAT := hI hat
   have HMEM := hI hmem
   clear hat hmem hA hpb
   simp only [Nat.zero_add] at k0 k1 k2 k3 k4 k5 k6
   obtain ⟨hE, hF, hZ, hN⟩ := kn_case HMEM.out
   simp only at hE hF hZ hN
   have HE := hI hE
   have HF := hI hF
   clear hE hF
   by_cases h0 : er = 0
   ·have HLE := hI (hZ h0).1
    have HFE := hI (hZ h0).2
    clear hZ hN
    subst h0
    go_upto_block 1 with fail
    refine wp_nrm (kn_body0 _ HLD HS HWB HKC HAT HE HF HLE HFE hlt hlt' k0 k1 k2 k3 k4 k5 k6 ?_ (by kernel_rfl))
    clear HS HWB HKC HAT HE HF HLE HFE k0 k1 k2 k3 k4 k5 k6
    intro W9 HS HWB HKC
    intros
    go_wp2_with fail
    go_roundw
    case rel => first | exact ⟨k + 1, by go_num, by omega, HS, HWB, HKC⟩ | ((repeat apply Exists.intro); exact ⟨⟨k + 1, by go_num, by omega, HS, HWB, HKC⟩, rfl⟩)
    case measure => simp [intOf]; omega
   ·have HLE := hI (hN h0).1
    have HFE := hI (hN h0).2
    clear hZ hN
    go_upto_block 1 with fail
    refine wp_nrm (kn_body1 _ HLD HS HWB HKC HAT HE HF HLE HFE h0 hlt hlt' k0 k1 k2 k3 k4 k5 k6 ?_ (by kernel_rfl))
    clear HS HWB HKC HAT HE HF HLE HFE k0 k1 k2 k3 k4 k5 k6
    intro W9 HS HWB HKC
    intros
    go_wp2_with fail
    go_roundw
    case rel => first | exact ⟨k + 1, by go_num, by omega, HS, HWB, HKC⟩ | ((repeat apply Exists.intro); exact ⟨⟨k + 1, by go_num, by omega, HS, HWB, HKC⟩, rfl⟩)
    case measure => simp [intOf]; omega
  ·obtain rfl : k = 8 := by omega
   go_wp2_with fail
   obtain ⟨W0, rfl⟩ : ∃ W0, W0 = wr := ⟨_, rfl⟩
   go_loopw [29, 30, 31] (fun v29 v30 v31 wq => ∃ j : Nat, v31 = .int .i64 (j : Int) ∧ j ≤ 128 ∧ Hid (LongW W0 v29 v30 j (j - 1) wq)) (fun _ _ v31 _ => 128 - (intOf v31).toNat)
   case atStart => exact ⟨0, rfl, Nat.zero_le _, LongW.start W0⟩
   case round =>
    obtain ⟨j, rfl, hj, HL⟩ := hrel
    by_cases hj2 : j < 128
    ·have hj3 : (j : Int) < 128 := by omega
     obtain ⟨An, cn, rfl⟩ := own_form HL.out.nm
     obtain ⟨Ar, cr, rfl⟩ := own_form HL.out.rd
     have hc := conv2 wr (97 + j / 12) (97 + j % 12) (by omega) (by omega)
     rw [show ((97 + j / 12 : Nat) : Int) = 97 + (j : Int) / 12 by omega, show ((97 + j % 12 : Nat) : Int) = 97 + (j : Int) % 12 by omega] at hc
     have hnk : (⟨#[112]⟩ ++ ⟨#[97 + UInt8.ofNat (j / 12), 97 + UInt8.ofNat (j % 12)]⟩ : ByteArray) = nmK j := by
      unfold nmK
      apply ByteArray.ext
      simp [UInt8.ofNat_add]
     have HNK := hI hnk
     clear hnk
     go_wp2_with (at_builtin; rw [HNK.out]; refine append_strs rfl (.tmp 321) (.tmp 333) rfl W0.heap.size (.slice An j cn) j ((nmL j).map Value.string) rfl (HL.out.below ((((Below.refl _ wr).alloc rr _).alloc (by simp) _))).nm (some ⟨wr.heap.size + 1, 0, none⟩) 1 1 [nmK j] rfl ?hs (by omega) ?hz ?hn)
     case hs =>
      have h := builtC (wr.alloc (.cells #[.int .u8 (97 + (j : Int) / 12), .int .u8 (97 + (j : Int) % 12)] 5)) [.string (nmK j)] 9 1 1 rfl (by decide)
      rw [show (wr.alloc (.cells #[.int .u8 (97 + (j : Int) / 12), .int .u8 (97 + (j : Int) % 12)] 5)).heap.size = wr.heap.size + 1 by simp] at h
      exact h
     case hz => have := HL.out.kept.size; simp; omega
     case hn =>
      intro v' w2 hown hg
      have HL2 := hI ((HL.out.below ((((Below.refl _ wr).alloc rr _).alloc (by simp) _))).name hown hg)
      obtain ⟨An2, cn2, rfl⟩ := own_form hown
      clear hown hg hc HL HNK
      by_cases hj0 : 0 < j
      ·have hj0' : (j : Int) > 0 := by omega
       have hbr : Below w2.heap.size w2 (w2.alloc (.cells #[.int .i64 ((j : Int) - 1), .int .i64 (j : Int), .int .i64 1073741824] 64)) := (Below.refl _ w2).alloc rr _
       have hwr : IntKind.i64.wrap ((j : Int) - 1) = (j : Int) - 1 := IntWalk.i64_in _ (by omega)
       go_wp2_with (at_builtin; refine append_roads rfl (.tmp 337) (.tmp 342) rfl W0.heap.size (.slice Ar (j - 1) cr) (j - 1) ((rdL (j - 1)).flatMap roadC) rfl (HL2.out.below hbr).rd (some ⟨w2.heap.size, 0, none⟩) 1 1 [rdK (j - 1)] rfl ?hs2 (by omega) ?hz2 ?hn2)
       case hs2 =>
        have h := builtC w2 [.int .i64 ((j : Int) - 1), .int .i64 (j : Int), .int .i64 1073741824] 64 1 3 rfl (by decide)
        refine ⟨?_, rfl⟩
        rw [show ([rdK (j - 1)].flatMap roadC) = [.int .i64 ((j : Int) - 1), .int .i64 (j : Int), .int .i64 1073741824] by simp [rdK, roadC]; omega]
        exact h
       case hz2 => have := HL2.out.kept.size; simp; omega
       case hn2 =>
        intro v2 w3 hown hg
        have hL3 := (HL2.out.below hbr).road (by simpa using hown) hg
        rw [show j - 1 + 1 = j by omega] at hL3
        have HL3 := hI hL3
        obtain ⟨Ar2, cr2, rfl⟩ := own_form hown
        clear hown hg hL3 HL2 hbr
        go_wp2_with fail
        go_roundw
        case rel => first | exact ⟨j + 1, by go_num, by omega, HL3⟩ | ((repeat apply Exists.intro); exact ⟨⟨j + 1, by go_num, by omega, HL3⟩, rfl⟩)
        case measure => simp [intOf]; omega
      ·have hj0' : ¬ (j : Int) > 0 := by omega
       obtain rfl : j = 0 := by omega
       have HL3 : Hid (LongW W0 (.slice An2 1 cn2) (.slice Ar 0 cr) 1 (1 - 1) w2) := HL2
       clear HL2
       go_wp2_with fail
       go_roundw
       case rel => first | exact ⟨1, by go_num, by omega, HL3⟩ | ((repeat apply Exists.intro); exact ⟨⟨1, rfl, by omega, HL3⟩, rfl⟩) | ((repeat apply Exists.intro); exact ⟨⟨1, rfl, by omega, HL3⟩, rfl, rfl, rfl⟩)
       case measure => simp [intOf]
    ·have hj3 : ¬ (j : Int) < 128 := by omega
     obtain rfl : j = 128 := by omega
     obtain ⟨An, cn, rfl⟩ := own_form HL.out.nm
     obtain ⟨Ar, cr, rfl⟩ := own_form HL.out.rd
     have HSN : Hid (IsStrs wr An 128 cn (nmL 128)) := Cells.of_own HL.out.nm (by decide)
     have HSR : Hid (IsRoads wr Ar 127 cr (rdL 127)) := Recs.of_own HL.out.rd roadC_len (by decide)
     replace HS := hI (HS.out.step HL.out.kept)
     clear HL HWB HKC
     go_upto_region 32 with fail
     exact kn_tail _ _ _ HLD HYD HS HSN HSR (by kernel_rfl) (by assumption) (by kernel_rfl)
end Go.Proofs.YtaglfmlgbcmakaaGreatDoor

/-
  works of ablautlaw38.
-/
import Derived.Test.YtaglfmlgbcmakaaGreatDoorH07
set_option linter.all false
set_option maxRecDepth 100000
set_option maxHeartbeats 4000000
namespace Go.Proofs.YtaglfmlgbcmakaaGreatDoor
open Go.RowKit Go.Shelf
theorem two_waves {ys : List WaveR} (h : wavesD ys = [wv0, wv1]) : ∃ y0 y1, ys = [y0, y1] ∧ y0.d = wv0 ∧ y1.d = wv1 := by
 unfold wavesD at h
 obtain ⟨y0, t, rfl, h0, ht⟩ := List.map_eq_cons_iff.1 h
 obtain ⟨y1, t2, rfl, h1, ht2⟩ := List.map_eq_cons_iff.1 ht
 obtain rfl := List.map_eq_nil_iff.1 ht2
 exact ⟨y0, y1, rfl, h0, h1⟩
theorem works38_c (w : World) (hT : TabOK w) : Calls Tryz.prog 27 #[] w fun e w' => e = .returned (.bool true) ∧ Below w.heap.size w w' := by
 have HT := hI hT
 clear hT
 go_enter Tryz.func27, Tryz.ntmps27
 go_wp2_with fail
 refine (example38_c w).mono ?_
 rintro e w1 ⟨b, Al, xs, Aw, ys, rfl, hm, hl, hld, hw, hwd, hb1⟩
 obtain ⟨y0, y1, rfl, hy0, hy1⟩ := two_waves hwd
 obtain ⟨yb, yo, hA, hyb, hat0, k0, k1, k2, k3, k4⟩ := hw.at_ (k := 0) (x := y0) rfl
 obtain ⟨yb', yo', hA', hyb', hat1, l0, l1, l2, l3, l4⟩ := hw.at_ (k := 1) (x := y1) rfl
 obtain ⟨rfl, rfl⟩ : yb = yb' ∧ yo = yo' := by rw [hA] at hA'; injection hA' with h; injection h with h1 h2; exact ⟨h1, h2⟩
 subst hA
 obtain ⟨d0, Aw0, n0, c0⟩ := y0
 obtain ⟨d1, Aw1, n1, c1⟩ := y1
 obtain rfl : d0 = wv0 := hy0
 obtain rfl : d1 = wv1 := hy1
 simp only [wv0, wv1, Nat.zero_mul, Nat.add_zero, Nat.one_mul] at k0 k1 k2 k3 k4 l0 l1 l2 l3 l4
 have HM := hI hm; have HL := hI hl; have HLD := hI hld; have HW := hI hw; have HB1 := hI hb1; have HA0 := hI hat0; have HA1 := hI hat1
 clear hm hl hld hw hwd hb1 hat0 hat1 hA'
 go_wp2_with fail
 have HAR := hI (arrive_c b 5 exRoadN ⟨wv0, Aw0, n0, c0⟩ w1 HM.out HA0.out)
 rw [show (⟨wv0, Aw0, n0, c0⟩ : WaveR).d = wv0 from rfl, ex_arr0] at HAR
 have HLS : Hid (∀ W' : World, Below w1.heap.size w1 W' → W'.cell? ⟨yb, yo + 5, none⟩ = some (.int .i64 1) ∧ W'.cell? ⟨yb, yo + 5 + 1, none⟩ = some (.slice Aw1 n1 c1) ∧ W'.cell? ⟨yb, yo + 5 + 2, none⟩ = some (.int .i64 0) ∧ W'.cell? ⟨yb, yo + 5 + 3, none⟩ = some (.int .i64 3) ∧ W'.cell? ⟨yb, yo + 5 + 4, none⟩ = some (.int .i64 13)) := fun W' hb =>
  ⟨(hb.cell (p := ⟨yb, _, none⟩) hyb).trans l0, (hb.cell (p := ⟨yb, _, none⟩) hyb).trans l1, (hb.cell (p := ⟨yb, _, none⟩) hyb).trans l2, (hb.cell (p := ⟨yb, _, none⟩) hyb).trans l3, (hb.cell (p := ⟨yb, _, none⟩) hyb).trans l4⟩
 clear k0 k1 k2 k3 k4 l0 l1 l2 l3 l4
 refine HAR.out.mono ?_
 rintro e w2 ⟨A2, n2, c2, rfl, hi2, hb2⟩
 have HI2 := hI hi2; have HB2 := hI hb2
 clear hi2 hb2 HAR
 obtain ⟨l0, l1, l2, l3, l4⟩ := HLS.out w2 HB2.out
 go_wp2_with fail
 clear l0 l1 l2 l3 l4
 have HAR := hI (arrive_c b 5 exRoadN ⟨wv1, Aw1, n1, c1⟩ w2 (HM.out.below HB2.out) (HA1.out.below HB2.out))
 rw [show (⟨wv1, Aw1, n1, c1⟩ : WaveR).d = wv1 from rfl, ex_arr1] at HAR
 refine HAR.out.mono ?_
 rintro e w3 ⟨A3, n3, c3, rfl, hi3, hb3⟩
 have HI3 := hI hi3; have HB3 := hI (HB2.out.trans (hb3.mono HB2.out.size))
 have HI23 := hI (Cells.below HI2.out hb3 rr)
 clear hi3 hb3 HAR
 go_wp2_with fail
 have HLI := hI (lineA_c b 5 exRoadN Al 2 2 xs (some ⟨yb, yo, none⟩) 2 2 [⟨wv0, Aw0, n0, c0⟩, ⟨wv1, Aw1, n1, c1⟩] 2 9 w3 (HM.out.below HB3.out) (HL.out.below HB3.out rr) (HW.out.below HB3.out) (HT.out.below (HB1.out.trans (HB3.out.mono HB1.out.size)) rr) (.inl (by omega)))
 rw [HLD.out, show wavesD [⟨wv0, Aw0, n0, c0⟩, ⟨wv1, Aw1, n1, c1⟩] = [wv0, wv1] from rfl, ex_line] at HLI
 refine HLI.out.mono ?_
 rintro e w4 ⟨A4, n4, c4, rfl, hi4, hb4⟩
 have HI4 := hI hi4; have HB4 := hI (HB3.out.trans (hb4.mono HB3.out.size))
 clear hi4 HLI
 go_wp2_with fail
 refine (exA_c w4).mono ?_
 rintro e w5 ⟨rfl, hb5⟩
 go_wp2_with fail
 refine (exP_c w5).mono ?_
 rintro e w6 ⟨rfl, hb6⟩
 go_wp2_with fail
 refine (exA_c w6).mono ?_
 rintro e w7 ⟨rfl, hb7⟩
 go_wp2_with fail
 have hb47 : Below w4.heap.size w4 w7 := hb5.trans ((hb6.trans (hb7.mono hb6.size)).mono hb5.size)
 have hwd : IsWord (w7.alloc (.cells #[.int .u32 sA.1, .int .u32 sA.2, .int .u32 sP.1, .int .u32 sP.2, .int .u32 sA.1, .int .u32 sA.2] 49)) (some ⟨w7.heap.size, 0, none⟩) 3 3 [sA, sP, sA] := builtC w7 (wcells [sA, sP, sA]) _ 3 2 rfl (by decide)
 have hbz : Below w4.heap.size w4 (w7.alloc (.cells #[.int .u32 sA.1, .int .u32 sA.2, .int .u32 sP.1, .int .u32 sP.2, .int .u32 sA.1, .int .u32 sA.2] 49)) := hb47.alloc hb47.size _
 obtain ⟨bw, hbw⟩ : ∃ bw, bw = w7.heap.size := ⟨_, rfl⟩
 rw [← hbw] at hwd ⊢
 clear hbw
 generalize w7.alloc (.cells #[.int .u32 sA.1, .int .u32 sA.2, .int .u32 sP.1, .int .u32 sP.2, .int .u32 sA.1, .int .u32 sA.2] 49) = w8 at *
 have HB8 := hI (HB4.out.trans (hbz.mono HB4.out.size))
 have HFM := hI (forms38_c b 5 exRoadN Al 2 2 xs (some ⟨yb, yo, none⟩) 2 2 [⟨wv0, Aw0, n0, c0⟩, ⟨wv1, Aw1, n1, c1⟩] (some ⟨bw, 0, none⟩) 3 3 [sA, sP, sA] 12 w8 (HM.out.below HB8.out) (HL.out.below HB8.out rr) (HW.out.below HB8.out) hwd (HT.out.below (HB1.out.trans (HB8.out.mono HB1.out.size)) rr) (.inl (by omega)))
 rw [HLD.out, show wavesD [⟨wv0, Aw0, n0, c0⟩, ⟨wv1, Aw1, n1, c1⟩] = [wv0, wv1] from rfl, ex_forms] at HFM
 have HI8a := hI (Cells.below HI23.out ((hb4.trans (hbz.mono hb4.size))) rr)
 have HI8b := hI (Cells.below HI3.out ((hb4.trans (hbz.mono hb4.size))) rr)
 have HI8c := hI (Cells.below HI4.out hbz rr)
 clear hb4 hb5 hb6 hb7 hb47 hwd hbz
 refine HFM.out.mono ?_
 rintro e w9 ⟨A9, c9, ps, rfl, hps, hown, hpp, -, hb9⟩
 obtain ⟨n9, hn9⟩ : ∃ n9, n9 = ps.length := ⟨_, rfl⟩
 have HF9 : Hid (IsWords w9 A9 n9 c9 [[sA, sB, sA], [sA, sB], [sA, sP], [sA, sP], [sA, sP, sA]]) := ⟨ps, hps, by rw [hn9]; exact Cells.of_own hown (by decide), hpp⟩
 have HB9 := hI (HB8.out.trans (hb9.mono HB8.out.size))
 have HJ2 := hI (Cells.below HI8a.out hb9 rr)
 have HJ3 := hI (Cells.below HI8b.out hb9 rr)
 have HJ4 := hI (Cells.below HI8c.out hb9 rr)
 rw [← hn9]
 clear hps hown hpp hb9 hn9 HFM HI8a HI8b HI8c HI2 HI23 HI3 HI4 HB2 HB3 HB4 HB8 HLS
 go_wp2_with fail
 have HCR := hI (crossed_c b 5 exRoadN Al 2 2 xs (some ⟨yb, yo, none⟩) 2 2 [⟨wv0, Aw0, n0, c0⟩, ⟨wv1, Aw1, n1, c1⟩] 0 1 w9 (HM.out.below HB9.out) (HL.out.below HB9.out rr) (HW.out.below HB9.out) (HT.out.below (HB1.out.trans (HB9.out.mono HB1.out.size)) rr))
 rw [HLD.out, show wavesD [⟨wv0, Aw0, n0, c0⟩, ⟨wv1, Aw1, n1, c1⟩] = [wv0, wv1] from rfl, ex_cross] at HCR
 refine HCR.out.mono ?_
 rintro e wa ⟨Aa, na, ca, rfl, hia, hba⟩
 have HIa := hI hia
 have HBa := hI (HB9.out.trans (hba.mono HB9.out.size))
 have HJ2a := hI (Cells.below HJ2.out hba rr)
 have HJ3a := hI (Cells.below HJ3.out hba rr)
 have HJ4a := hI (Cells.below HJ4.out hba rr)
 have HFa := hI (HF9.out.below hba rr)
 clear hia hba HCR HJ2 HJ3 HJ4 HF9 HB9
 obtain ⟨FF, hFF⟩ : ∃ FF : World → Prop, FF = fun W => IsInts W A2 n2 c2 [2, 6, 9, 10, -1] ∧ IsInts W A3 n3 c3 [-1, 12, 3, 0, -1] ∧ IsInts W A4 n4 c4 [1, 0] ∧ IsWords W A9 n9 c9 [[sA, sB, sA], [sA, sB], [sA, sP], [sA, sP], [sA, sP, sA]] ∧ IsInts W Aa na ca [0, 1] ∧ Below w.heap.size w W := ⟨_, rfl⟩
 have HFA : Hid (FF wa) := by show FF wa; rw [hFF]; exact ⟨HJ2a.out, HJ3a.out, HJ4a.out, HFa.out, HIa.out, HB1.out.trans (HBa.out.mono HB1.out.size)⟩
 have HFB : Hid (∀ W W', FF W → Below W.heap.size W W' → FF W') := fun W W' h hb => by
  rw [hFF] at h ⊢
  obtain ⟨h1, h2, h3, h4, h5, h6⟩ := h
  exact ⟨Cells.below h1 hb rr, Cells.below h2 hb rr, Cells.below h3 hb rr, h4.below hb rr, Cells.below h5 hb rr, h6.trans (hb.mono h6.size)⟩
 have HFF : Hid (∀ W, FF W → IsInts W A2 n2 c2 [2, 6, 9, 10, -1] ∧ IsInts W A3 n3 c3 [-1, 12, 3, 0, -1] ∧ IsInts W A4 n4 c4 [1, 0] ∧ IsWords W A9 n9 c9 [[sA, sB, sA], [sA, sB], [sA, sP], [sA, sP], [sA, sP, sA]] ∧ IsInts W Aa na ca [0, 1] ∧ Below w.heap.size w W) := fun W h => by rw [hFF] at h; exact h
 clear hFF HJ2a HJ3a HJ4a HFa HIa HBa HM HL HLD HW HA0 HA1 hyb HB1 HT
 go_wp2_with fail
 refine (exA_c wa).mono ?_
 rintro e wb ⟨rfl, hbb⟩
 have HFb := hI (HFB.out _ _ HFA.out hbb)
 clear hbb HFA
 go_wp2_with fail
 refine (exP_c wb).mono ?_
 rintro e wc ⟨rfl, hbc⟩
 have HFc := hI (HFB.out _ _ HFb.out hbc)
 clear hbc HFb
 have hap : IsWord (wc.alloc (.cells #[.int .u32 sA.1, .int .u32 sA.2, .int .u32 sP.1, .int .u32 sP.2] 49)) (some ⟨wc.heap.size, 0, none⟩) 2 2 [sA, sP] := builtC wc (wcells [sA, sP]) _ 2 2 rfl (by decide)
 have hzc : Below wc.heap.size wc (wc.alloc (.cells #[.int .u32 sA.1, .int .u32 sA.2, .int .u32 sP.1, .int .u32 sP.2] 49)) := (Below.refl _ wc).alloc rr _
 have hszc : (wc.alloc (.cells #[.int .u32 sA.1, .int .u32 sA.2, .int .u32 sP.1, .int .u32 sP.2] 49)).heap.size = wc.heap.size + 1 := by simp
 have HFV0 := hI (HFB.out _ _ HFc.out hzc)
 have HAP0 := hI hap
 clear hap hzc HFc
 go_wp2_with fail
 obtain ⟨ba, hba⟩ : ∃ ba, ba = wc.heap.size := ⟨_, rfl⟩
 rw [← hszc]
 generalize wc.alloc (.cells #[.int .u32 sA.1, .int .u32 sA.2, .int .u32 sP.1, .int .u32 sP.2] 49) = V0 at *
 rw [← hba] at HAP0 ⊢
 clear hszc hba
 have hj0 : IsInts (V0.alloc (.cells #[.int .i64 2, .int .i64 6, .int .i64 9, .int .i64 10, .int .i64 (-1)] 2)) (some ⟨V0.heap.size, 0, none⟩) 5 5 [2, 6, 9, 10, -1] := builtC V0 [.int .i64 2, .int .i64 6, .int .i64 9, .int .i64 10, .int .i64 (-1)] _ 5 1 rfl (by decide)
 have hk0 : Below V0.heap.size V0 (V0.alloc (.cells #[.int .i64 2, .int .i64 6, .int .i64 9, .int .i64 10, .int .i64 (-1)] 2)) := (Below.refl _ V0).alloc rr _
 have hl0 := HFB.out _ _ HFV0.out hk0
 refine (times38_c A2 _ n2 _ c2 _ [2, 6, 9, 10, -1] [2, 6, 9, 10, -1] _ (HFF.out _ hl0).1 hj0).mono ?_
 rw [show decide (([2, 6, 9, 10, -1] : List Int) = [2, 6, 9, 10, -1]) = true from decide_eq_true rfl]
 rintro e V1 ⟨rfl, hm0⟩
 have HFV1 := hI (HFB.out _ _ hl0 hm0)
 have HAP1 := hI ((HAP0.out.below hk0 rr).below hm0 rr)
 clear hj0 hk0 hl0 hm0 HFV0 HAP0
 go_wp2_with fail
 have hj1 : IsInts (V1.alloc (.cells #[.int .i64 (-1), .int .i64 12, .int .i64 3, .int .i64 0, .int .i64 (-1)] 2)) (some ⟨V1.heap.size, 0, none⟩) 5 5 [-1, 12, 3, 0, -1] := builtC V1 [.int .i64 (-1), .int .i64 12, .int .i64 3, .int .i64 0, .int .i64 (-1)] _ 5 1 rfl (by decide)
 have hk1 : Below V1.heap.size V1 (V1.alloc (.cells #[.int .i64 (-1), .int .i64 12, .int .i64 3, .int .i64 0, .int .i64 (-1)] 2)) := (Below.refl _ V1).alloc rr _
 have hl1 := HFB.out _ _ HFV1.out hk1
 refine (times38_c A3 _ n3 _ c3 _ [-1, 12, 3, 0, -1] [-1, 12, 3, 0, -1] _ (HFF.out _ hl1).2.1 hj1).mono ?_
 rw [show decide (([-1, 12, 3, 0, -1] : List Int) = [-1, 12, 3, 0, -1]) = true from decide_eq_true rfl]
 rintro e V2 ⟨rfl, hm1⟩
 have HFV2 := hI (HFB.out _ _ hl1 hm1)
 have HAP2 := hI ((HAP1.out.below hk1 rr).below hm1 rr)
 clear hj1 hk1 hl1 hm1 HFV1 HAP1
 go_wp2_with fail
 have hj2 : IsInts (V2.alloc (.cells #[.int .i64 1, .int .i64 0] 3)) (some ⟨V2.heap.size, 0, none⟩) 2 2 [1, 0] := builtC V2 [.int .i64 1, .int .i64 0] _ 2 1 rfl (by decide)
 have hk2 : Below V2.heap.size V2 (V2.alloc (.cells #[.int .i64 1, .int .i64 0] 3)) := (Below.refl _ V2).alloc rr _
 have hl2 := HFB.out _ _ HFV2.out hk2
 refine (numbers38_c A4 _ n4 _ c4 _ [1, 0] [1, 0] _ (HFF.out _ hl2).2.2.1 hj2).mono ?_
 rw [show decide (([1, 0] : List Int) = [1, 0]) = true from decide_eq_true rfl]
 rintro e V3 ⟨rfl, hm2⟩
 have HFV3 := hI (HFB.out _ _ hl2 hm2)
 have HAP3 := hI ((HAP2.out.below hk2 rr).below hm2 rr)
 clear hj2 hk2 hl2 hm2 HFV2 HAP2
 go_wp2_with fail
 refine (exA_c V3).mono ?_
 rintro e U1 ⟨rfl, hbU1⟩
 have HFU1 := hI (HFB.out _ _ HFV3.out hbU1)
 replace HAP3 := hI (HAP3.out.below hbU1 rr)
 clear hbU1
 go_wp2_with fail
 refine (exB_c U1).mono ?_
 rintro e U2 ⟨rfl, hbU2⟩
 have HFU2 := hI (HFB.out _ _ HFU1.out hbU2)
 replace HAP3 := hI (HAP3.out.below hbU2 rr)
 clear hbU2
 go_wp2_with fail
 refine (exA_c U2).mono ?_
 rintro e U3 ⟨rfl, hbU3⟩
 have HFU3 := hI (HFB.out _ _ HFU2.out hbU3)
 replace HAP3 := hI (HAP3.out.below hbU3 rr)
 clear hbU3
 have hwU4 : IsWord (U3.alloc (.cells #[.int .u32 sA.1, .int .u32 sA.2, .int .u32 sB.1, .int .u32 sB.2, .int .u32 sA.1, .int .u32 sA.2] 49)) (some ⟨U3.heap.size, 0, none⟩) 3 3 [sA, sB, sA] := builtC U3 (wcells [sA, sB, sA]) _ 3 2 rfl (by decide)
 have hzU4 : Below U3.heap.size U3 (U3.alloc (.cells #[.int .u32 sA.1, .int .u32 sA.2, .int .u32 sB.1, .int .u32 sB.2, .int .u32 sA.1, .int .u32 sA.2] 49)) := (Below.refl _ U3).alloc rr _
 have HFU4 := hI (HFB.out _ _ HFU3.out hzU4)
 replace HAP3 := hI (HAP3.out.below hzU4 rr)
 have HW1 := hI hwU4
 clear hwU4 hzU4
 go_wp2_with fail
 obtain ⟨bx1, hbx1⟩ : ∃ x, x = U3.heap.size := ⟨_, rfl⟩
 rw [← hbx1] at HW1 ⊢
 clear hbx1
 generalize U3.alloc (.cells #[.int .u32 sA.1, .int .u32 sA.2, .int .u32 sB.1, .int .u32 sB.2, .int .u32 sA.1, .int .u32 sA.2] 49) = U4 at *
 refine (exA_c U4).mono ?_
 rintro e U5 ⟨rfl, hbU5⟩
 have HFU5 := hI (HFB.out _ _ HFU4.out hbU5)
 replace HAP3 := hI (HAP3.out.below hbU5 rr)
 replace HW1 := hI (HW1.out.below hbU5 rr)
 clear hbU5
 go_wp2_with fail
 refine (exB_c U5).mono ?_
 rintro e U6 ⟨rfl, hbU6⟩
 have HFU6 := hI (HFB.out _ _ HFU5.out hbU6)
 replace HAP3 := hI (HAP3.out.below hbU6 rr)
 replace HW1 := hI (HW1.out.below hbU6 rr)
 clear hbU6
 have hwU7 : IsWord (U6.alloc (.cells #[.int .u32 sA.1, .int .u32 sA.2, .int .u32 sB.1, .int .u32 sB.2] 49)) (some ⟨U6.heap.size, 0, none⟩) 2 2 [sA, sB] := builtC U6 (wcells [sA, sB]) _ 2 2 rfl (by decide)
 have hzU7 : Below U6.heap.size U6 (U6.alloc (.cells #[.int .u32 sA.1, .int .u32 sA.2, .int .u32 sB.1, .int .u32 sB.2] 49)) := (Below.refl _ U6).alloc rr _
 have HFU7 := hI (HFB.out _ _ HFU6.out hzU7)
 replace HAP3 := hI (HAP3.out.below hzU7 rr)
 replace HW1 := hI (HW1.out.below hzU7 rr)
 have HW2 := hI hwU7
 clear hwU7 hzU7
 go_wp2_with fail
 obtain ⟨bx2, hbx2⟩ : ∃ x, x = U6.heap.size := ⟨_, rfl⟩
 rw [← hbx2] at HW2 ⊢
 clear hbx2
 generalize U6.alloc (.cells #[.int .u32 sA.1, .int .u32 sA.2, .int .u32 sB.1, .int .u32 sB.2] 49) = U7 at *
 refine (exA_c U7).mono ?_
 rintro e U8 ⟨rfl, hbU8⟩
 have HFU8 := hI (HFB.out _ _ HFU7.out hbU8)
 replace HAP3 := hI (HAP3.out.below hbU8 rr)
 replace HW1 := hI (HW1.out.below hbU8 rr)
 replace HW2 := hI (HW2.out.below hbU8 rr)
 clear hbU8
 go_wp2_with fail
 refine (exP_c U8).mono ?_
 rintro e U9 ⟨rfl, hbU9⟩
 have HFU9 := hI (HFB.out _ _ HFU8.out hbU9)
 replace HAP3 := hI (HAP3.out.below hbU9 rr)
 replace HW1 := hI (HW1.out.below hbU9 rr)
 replace HW2 := hI (HW2.out.below hbU9 rr)
 clear hbU9
 go_wp2_with fail
 refine (exA_c U9).mono ?_
 rintro e Ua ⟨rfl, hbUa⟩
 have HFUa := hI (HFB.out _ _ HFU9.out hbUa)
 replace HAP3 := hI (HAP3.out.below hbUa rr)
 replace HW1 := hI (HW1.out.below hbUa rr)
 replace HW2 := hI (HW2.out.below hbUa rr)
 clear hbUa
 have hwUb : IsWord (Ua.alloc (.cells #[.int .u32 sA.1, .int .u32 sA.2, .int .u32 sP.1, .int .u32 sP.2, .int .u32 sA.1, .int .u32 sA.2] 49)) (some ⟨Ua.heap.size, 0, none⟩) 3 3 [sA, sP, sA] := builtC Ua (wcells [sA, sP, sA]) _ 3 2 rfl (by decide)
 have hzUb : Below Ua.heap.size Ua (Ua.alloc (.cells #[.int .u32 sA.1, .int .u32 sA.2, .int .u32 sP.1, .int .u32 sP.2, .int .u32 sA.1, .int .u32 sA.2] 49)) := (Below.refl _ Ua).alloc rr _
 have hsUb : (Ua.alloc (.cells #[.int .u32 sA.1, .int .u32 sA.2, .int .u32 sP.1, .int .u32 sP.2, .int .u32 sA.1, .int .u32 sA.2] 49)).heap.size = Ua.heap.size + 1 := by simp
 have HFUb := hI (HFB.out _ _ HFUa.out hzUb)
 replace HAP3 := hI (HAP3.out.below hzUb rr)
 replace HW1 := hI (HW1.out.below hzUb rr)
 replace HW2 := hI (HW2.out.below hzUb rr)
 have HW3 := hI hwUb
 clear hwUb hzUb
 go_wp2_with fail
 rw [← hsUb]
 generalize Ua.alloc (.cells #[.int .u32 sA.1, .int .u32 sA.2, .int .u32 sP.1, .int .u32 sP.2, .int .u32 sA.1, .int .u32 sA.2] 49) = Ub at *
 have hbw := built_words Ub [(some ⟨bx1, 0, none⟩, 3, 3, [sA, sB, sA]), (some ⟨bx2, 0, none⟩, 2, 2, [sA, sB]), (some ⟨ba, 0, none⟩, 2, 2, [sA, sP]), (some ⟨ba, 0, none⟩, 2, 2, [sA, sP]), (some ⟨Ua.heap.size, 0, none⟩, 3, 3, [sA, sP, sA])] 28 (by simp) (fun p hp => by
  simp only [List.mem_cons, List.not_mem_nil, or_false] at hp
  rcases hp with rfl | rfl | rfl | rfl | rfl
  ·exact HW1.out
  ·exact HW2.out
  ·exact HAP3.out
  ·exact HAP3.out
  ·exact HW3.out)
 have hzz : Below Ub.heap.size Ub (Ub.alloc (.cells #[.slice (some ⟨bx1, 0, none⟩) 3 3, .slice (some ⟨bx2, 0, none⟩) 2 2, .slice (some ⟨ba, 0, none⟩) 2 2, .slice (some ⟨ba, 0, none⟩) 2 2, .slice (some ⟨Ua.heap.size, 0, none⟩) 3 3] 28)) := (Below.refl _ Ub).alloc rr _
 have hfz := HFB.out _ _ HFUb.out hzz
 refine (rSame_c A9 _ n9 _ c9 _ [[sA, sB, sA], [sA, sB], [sA, sP], [sA, sP], [sA, sP, sA]] [[sA, sB, sA], [sA, sB], [sA, sP], [sA, sP], [sA, sP, sA]] _ (HFF.out _ hfz).2.2.2.1 hbw).mono ?_
 rw [show decide (([[sA, sB, sA], [sA, sB], [sA, sP], [sA, sP], [sA, sP, sA]] : List (List Snd)) = [[sA, sB, sA], [sA, sB], [sA, sP], [sA, sP], [sA, sP, sA]]) = true from decide_eq_true rfl]
 rintro e Uc ⟨rfl, hbc⟩
 have HFUc := hI (HFB.out _ _ hfz hbc)
 clear hbw hzz hfz hbc HW1 HW2 HW3 HAP3 HFUb hsUb
 go_wp2_with fail
 have hj9 : IsInts (Uc.alloc (.cells #[.int .i64 0, .int .i64 1] 3)) (some ⟨Uc.heap.size, 0, none⟩) 2 2 [0, 1] := builtC Uc [.int .i64 0, .int .i64 1] _ 2 1 rfl (by decide)
 have hk9 : Below Uc.heap.size Uc (Uc.alloc (.cells #[.int .i64 0, .int .i64 1] 3)) := (Below.refl _ Uc).alloc rr _
 have hl9 := HFB.out _ _ HFUc.out hk9
 refine (numbers38_c Aa _ na _ ca _ [0, 1] [0, 1] _ (HFF.out _ hl9).2.2.2.2.1 hj9).mono ?_
 rw [show decide (([0, 1] : List Int) = [0, 1]) = true from decide_eq_true rfl]
 rintro e Ud ⟨rfl, hm9⟩
 have HFUd := hI (HFB.out _ _ hl9 hm9)
 clear hj9 hk9 hl9 hm9
 go_wp2
 go_ret
 exact ⟨rfl, (HFF.out _ HFUd.out).2.2.2.2.2⟩
end Go.Proofs.YtaglfmlgbcmakaaGreatDoor

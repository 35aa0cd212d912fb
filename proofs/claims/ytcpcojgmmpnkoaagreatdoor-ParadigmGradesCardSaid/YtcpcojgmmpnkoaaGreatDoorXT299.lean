/-
  ablautlaw29.ParadigmGrades is true.
-/
import Derived.Test.YtcpcojgmmpnkoaaGreatDoorG76
import Derived.Test.YtcpcojgmmpnkoaaGreatDoorG67
set_option linter.all false
set_option maxRecDepth 100000
set_option maxHeartbeats 4000000
namespace Go.Proofs.YtcpcojgmmpnkoaaGreatDoor
open Go.RowKit Go.Shelf
theorem cond_all : ∀ x : Fin 256, fvalid (bits .and .u32 (x.val : Int) 7) (bits .andNot .u32 (bits .and .u32 ((x.val : Int) / 8) 7) (bits .and .u32 (x.val : Int) 7)) = true := by decide +kernel
theorem cond_ok (q : Int) (lo : 0 ≤ q) (hi : q ≤ 255) : fvalid (bits .and .u32 q 7) (bits .andNot .u32 (bits .and .u32 (q / 8) 7) (bits .and .u32 q 7)) = true := by
 have h := cond_all ⟨q.toNat, by omega⟩
 rwa [show ((q.toNat : Nat) : Int) = q by omega] at h
theorem same_row {T : List (List Frm)} (hp : parE T = 0) {i : Nat} {r : List Frm} (h : T[i]? = some r) : pSameM T i = (0, labelsM r) := by
 obtain ⟨hi, _⟩ := List.getElem?_eq_some_iff.1 h
 unfold pSameM
 rw [line_zero hp hi, row_at h, if_neg (by decide)]
theorem grades_row {T : List (List Frm)} (hp : parE T = 0) {i : Nat} {r : List Frm} (h : T[i]? = some r) {cp cm : Int} (hv : fvalid cp cm = true) : pGradesM T i (cp, cm) = (0, labelsM (r.map (gradeF (cp, cm)))) := by
 obtain ⟨hi, _⟩ := List.getElem?_eq_some_iff.1 h
 unfold pGradesM
 rw [if_neg (by simp [hp]), if_neg (by simp [hv]), line_zero hp hi, row_at h, if_neg (by decide)]
theorem parGrades_c (A : Option Addr) (n c : Nat) (l : List Nat) (q : Int) (lo : 0 ≤ q) (hi : q ≤ 255) (w : World) (hx : IsNums w A n c l) (hT : TabOK w) :
  Calls Tryz.prog 12 #[.slice A n c, .int .u8 q] w (RetTrue w) := by
 have hm := hx.max
 have HX := hI hx
 have HT := hI hT
 clear hx hT
 go_enter Tryz.func12, Tryz.ntmps12
 go_wp2_with fail
 refine (made_c A n c l w HX.out).mono ?_
 obtain ⟨T, hT⟩ : ∃ T, T = madeM l := ⟨_, rfl⟩
 rw [← hT]
 have HR4 : Hid (∀ r ∈ T, ∃ x, r = rowM x) := by show ∀ r ∈ T, _; rw [hT]; exact fun r hr => made_row hr
 have hT8 : T.length ≤ 8 := by rw [hT]; exact made_len l
 have HPE : Hid (parE T = 0) := par_zero (b := 3) (by omega) (by omega) (by rw [hT]; exact made_rows l)
 clear hT
 rintro e w1 ⟨A1, n1, c1, rfl, hp1, hB1⟩
 have hn8 : n1 ≤ 8 := by rw [← hp1.len]; exact hT8
 have HP1 := hI hp1
 have HB1 := hI hB1
 clear hp1 hB1 hT8
 go_wp2_with fail
 obtain ⟨cp, hcp⟩ : ∃ cp, cp = bits BinOp.and IntKind.u32 q 7 := ⟨_, rfl⟩
 obtain ⟨cm, hcm⟩ : ∃ cm, cm = bits BinOp.andNot IntKind.u32 (bits BinOp.and IntKind.u32 (q / 8) 7) (bits BinOp.and IntKind.u32 q 7) := ⟨_, rfl⟩
 have HV : Hid (fvalid cp cm = true) := by show _ = _; rw [hcp, hcm]; exact cond_ok q lo hi
 rw [← hcm, ← hcp]
 clear hcp hcm
 have hk0 : (w1.alloc (.cells #[.int .u32 cp, .int .u32 cm] 24)).heap[w1.heap.size]? = some (.cells #[.int .u32 cp, .int .u32 cm] 24 (0, 0)) := hpt
 have hb0 : Below w1.heap.size w1 (w1.alloc (.cells #[.int .u32 cp, .int .u32 cm] 24)) := bel
 generalize (w1.alloc (.cells #[.int .u32 cp, .int .u32 cm] 24)) = V0 at *
 obtain ⟨bc, hbc⟩ : ∃ bc, bc = w1.heap.size := ⟨_, rfl⟩
 rw [← hbc] at hk0 ⊢
 clear hbc
 have HK0 := hI hk0
 have HB0 := hI hb0
 clear hk0 hb0
 go_loopw [7] (fun vi wr => ∃ i : Nat, vi = .int .i64 i ∧ i ≤ n1 ∧ Hid (wr.heap[bc]? = some (.cells #[.int .u32 cp, .int .u32 cm] 24 (0, 0))) ∧ Below w1.heap.size w1 wr) (fun vi _ => n1 - (intOf vi).toNat)
 case atStart => exact ⟨0, rfl, Nat.zero_le _, HK0.out, HB0.out⟩
 case round =>
  obtain ⟨i, rfl, hi, hkc, hB⟩ := hrel
  have hBs := hB.size
  by_cases hlt : i < n1
  ·have hi1 : (i : Int) < (n1 : Int) := by omega
   obtain ⟨b, off, A2, n2, c2, r, rfl, hbl, hc1, hlk, hfl⟩ := HP1.out.at_ hlt
   obtain ⟨x, rfl⟩ := HR4.out r (List.mem_of_getElem? hlk)
   have hn4 : n2 = 4 := by rw [← hfl.len]; exact rowM_len x
   subst hn4
   have HE1 := hI (same_row HPE.out hlk)
   have HE2 := hI (grades_row HPE.out hlk (cp := 0) (cm := 0) (by kernel_rfl))
   have HE3 := hI (grades_row HPE.out hlk HV.out)
   have HF := hI hfl
   have HC1 := hI hc1
   clear hlk hfl hc1
   go_wp2_with fail
   refine (pSame_c _ n1 c1 T i wr (HP1.out.below hB rr) (by omega)).mono ?_
   rw [HE1.out]
   rintro e w2 ⟨A3, n3, c3, rfl, hi3, hb2⟩
   have HB2 := hI (hB.trans (hb2.mono hBs))
   have HK2 := hI ((hb2.block bc (lt_of_block hkc.out)).trans hkc.out)
   have hn3 : n3 = 4 := by rw [← hi3.len, labels_len]; exact rowM_len x
   subst hn3
   have HI3 := hI hi3
   clear hi3 hb2
   go_wp2_with fail
   refine (pGrades_c _ n1 c1 T i 0 0 w2 (HP1.out.below HB2.out rr) (by omega)).mono ?_
   rw [HE2.out, grade_all]
   rintro e w3 ⟨A4, n4, c4, rfl, hi4, hb3⟩
   have HB3 := hI (HB2.out.trans (hb3.mono HB2.out.size))
   have hk3 := (hb3.block bc (lt_of_block HK2.out)).trans HK2.out
   have hn4 : n4 = 4 := by rw [← hi4.len, labels_len]; exact rowM_len x
   subst hn4
   have HI4 := hI hi4
   have HI33 := hI (HI3.out.below hb3 rr)
   have k0 : w3.cell? ⟨bc, 0, none⟩ = some (.int .u32 cp) := cell_at_heap hk3 rfl
   have k1 : w3.cell? ⟨bc, 1, none⟩ = some (.int .u32 cm) := cell_at_heap hk3 rfl
   have HK3 := hI hk3
   clear hi4 hb3 hk3
   go_wp2_with fail
   clear k0 k1
   refine (pGrades_c _ n1 c1 T i cp cm w3 (HP1.out.below HB3.out rr) (by omega)).mono ?_
   rw [HE3.out]
   rintro e w4 ⟨A5, n5, c5, rfl, hi5, hb4⟩
   have HB4 := hI (HB3.out.trans (hb4.mono HB3.out.size))
   have HK4 := hI ((hb4.block bc (lt_of_block HK3.out)).trans HK3.out)
   have hn5 : n5 = 4 := by rw [← hi5.len, labels_len, List.length_map]; exact rowM_len x
   subst hn5
   have HI5 := hI hi5
   have HI34 := hI (HI33.out.below hb4 rr)
   have HI44 := hI (HI4.out.below hb4 rr)
   clear hi5 hb4
   go_wp2_with fail
   refine (labelled_c (rowM x) A3 4 c3 w4 HI34.out).mono ?_
   rintro e w5 ⟨rfl, hb5⟩
   go_wp2_with fail
   refine (labelled_c ((rowM x).map (gradeF (cp, cm))) A5 4 c5 w5 (HI5.out.below hb5 rr)).mono ?_
   rintro e w6 ⟨rfl, hb6⟩
   have hb56 := hb5.trans (hb6.mono hb5.size)
   go_wp2_with fail
   refine (equal29_c A3 A4 4 4 c3 c4 _ _ w6 (HI34.out.below hb56 rr) (HI44.out.below hb56 rr)).mono ?_
   rintro e w7 ⟨rfl, hb7⟩
   rw [decide_eq_true rfl]
   have hb57 := hb56.trans (hb7.mono hb56.size)
   have HB7 := hI (HB4.out.trans (hb57.mono HB4.out.size))
   have HK7 := hI ((hb57.block bc (lt_of_block HK4.out)).trans HK4.out)
   have HI37 := hI (HI34.out.below hb57 rr)
   have HI57 := hI (HI5.out.below hb57 rr)
   clear hb5 hb6 hb7 hb56 hb57
   go_wp2_with fail
   go_loopw [14] (fun vk wr => ∃ k : Nat, vk = .int .i64 k ∧ k ≤ 4 ∧ Below w7.heap.size w7 wr) (fun vk _ => 4 - (intOf vk).toNat)
   case atStart => exact ⟨0, rfl, Nat.zero_le _, Below.refl _ _⟩
   case round =>
    obtain ⟨k, rfl, hk, hB8⟩ := hrel
    have hB8s := hB8.size
    by_cases hltk : k < 4
    ·have hk1 : (k : Int) < (4 : Int) := by omega
     obtain ⟨wk, hwk⟩ : ∃ wk, wk = wr := ⟨_, rfl⟩
     rw [← hwk] at hB8
     have HWK := hI hwk
     clear hwk
     go_wp2_with fail
     go_loopw [15] (fun vj wr => ∃ j : Nat, vj = .int .i64 j ∧ j ≤ k ∧ Below w7.heap.size w7 wr) (fun vj _ => k - (intOf vj).toNat)
     case atStart => exact ⟨0, rfl, Nat.zero_le _, by rw [← HWK.out]; exact hB8⟩
     case round =>
      obtain ⟨j, rfl, hj, hB9⟩ := hrel
      have hB9s := hB9.size
      have hBB9 := HB7.out.trans (hB9.mono HB7.out.size)
      by_cases hltj : j < k
      ·have hj1 : (j : Int) < (k : Int) := by omega
       have hj4 : (j : Int) < (4 : Int) := by omega
       obtain ⟨b3, off3, a1, rfl, hb3, d0, hx1⟩ := (HI37.out.below hB9 rr).at_ (k := j) (by omega)
       obtain ⟨b3', off3', a2, hA3, _, d1, hx2⟩ := (HI37.out.below hB9 rr).at_ (k := k) (by omega)
       obtain ⟨rfl, rfl⟩ : b3 = b3' ∧ off3 = off3' := by simpa using hA3
       obtain ⟨b5, off5, a3, rfl, hb5, g0, hx3⟩ := (HI57.out.below hB9 rr).at_ (k := j) (by omega)
       obtain ⟨b5', off5', a4, hA5, _, g1, hx4⟩ := (HI57.out.below hB9 rr).at_ (k := k) (by omega)
       obtain ⟨rfl, rfl⟩ : b5 = b5' ∧ off5 = off5' := by simpa using hA5
       obtain ⟨b2, off2, h1, A6, n6, c6, ws6, rfl, hb2, e00, e01, hl1, hw1⟩ := HF.out.at_ (k := j) (by omega)
       obtain ⟨b2', off2', h2, A7, n7, c7, ws7, hA2, _, e10, e11, hl2, hw2⟩ := HF.out.at_ (k := k) (by omega)
       obtain ⟨rfl, rfl⟩ : b2 = b2' ∧ off2 = off2' := by simpa using hA2
       have f0 := (hBB9.cell (p := ⟨b, off + i, none⟩) hbl).trans HC1.out
       have f1 := (hBB9.cell (p := ⟨b2, off2 + j * 2, none⟩) hb2).trans e00
       have f2 := (hBB9.cell (p := ⟨b2, off2 + j * 2 + 1, none⟩) hb2).trans e01
       have f3 := (hBB9.cell (p := ⟨b2, off2 + k * 2, none⟩) hb2).trans e10
       have f4 := (hBB9.cell (p := ⟨b2, off2 + k * 2 + 1, none⟩) hb2).trans e11
       have HW1 := hI (hw1.below hBB9 rr)
       have HW2 := hI (hw2.below hBB9 rr)
       have hj' : j < (rowM x).length := by rw [rowM_len]; omega
       have hk' : k < (rowM x).length := by rw [rowM_len]; omega
       rw [labels_get hj'] at hx1
       rw [labels_get hk'] at hx2
       rw [labels_get (by rw [List.length_map]; exact hj')] at hx3
       rw [labels_get (by rw [List.length_map]; exact hk')] at hx4
       have hiff := lab_iff hj' hk'
       have hgl := lab_map (gradeF (cp, cm)) hj' hk'
       rw [hl1, hl2] at hiff
       have hb2r : b2 < wr.heap.size := by have := hBB9.size; omega
       have hbr : b < wr.heap.size := by have := hBB9.size; omega
       have ha1 : (labAt (rowM x) j : Int) = a1 := Option.some.inj hx1
       have ha2 : (labAt (rowM x) k : Int) = a2 := Option.some.inj hx2
       have ha3 : (labAt ((rowM x).map (gradeF (cp, cm))) j : Int) = a3 := Option.some.inj hx3
       have ha4 : (labAt ((rowM x).map (gradeF (cp, cm))) k : Int) = a4 := Option.some.inj hx4
       clear hA3 hA5 hA2 e00 e01 e10 e11 hw1 hw2 hx1 hx2 hx3 hx4 hl1 hl2
       by_cases hjk : labAt (rowM x) j = labAt (rowM x) k
       ·have hd := hiff.1 hjk
        have hg := hgl hjk
        obtain rfl : a1 = a2 := by rw [← ha1, ← ha2, hjk]
        obtain rfl : a3 = a4 := by rw [← ha3, ← ha4, hg]
        obtain ⟨rfl, rfl⟩ : h1 = h2 ∧ ws6 = ws7 := by simpa using hd
        clear hd hg hjk ha1 ha2 ha3 ha4 hiff hgl hj' hk'
        have hq : (a3 != a3) = false := by simp
        have hS : wr.cell? ⟨b3, off3 + j, none⟩ = some (.int .i64 a1) ∧ wr.cell? ⟨b3, off3 + k, none⟩ = some (.int .i64 a1) ∧ wr.cell? ⟨b5, off5 + j, none⟩ = some (.int .i64 a3) ∧ wr.cell? ⟨b5, off5 + k, none⟩ = some (.int .i64 a3) ∧ wr.cell? ⟨b, off + i, none⟩ = some (.slice (some ⟨b2, off2, none⟩) 4 c2) ∧ wr.cell? ⟨b2, off2 + j * 2, none⟩ = some (.bool h1) ∧ wr.cell? ⟨b2, off2 + j * 2 + 1, none⟩ = some (.slice A6 n6 c6) ∧ wr.cell? ⟨b2, off2 + k * 2, none⟩ = some (.bool h1) ∧ wr.cell? ⟨b2, off2 + k * 2 + 1, none⟩ = some (.slice A7 n7 c7) := ⟨d0, d1, g0, g1, f0, f1, f2, f3, f4⟩
        have HSB : Hid (∀ W : World, Below wr.heap.size wr W → W.cell? ⟨b3, off3 + j, none⟩ = some (.int .i64 a1) ∧ W.cell? ⟨b3, off3 + k, none⟩ = some (.int .i64 a1) ∧ W.cell? ⟨b5, off5 + j, none⟩ = some (.int .i64 a3) ∧ W.cell? ⟨b5, off5 + k, none⟩ = some (.int .i64 a3) ∧ W.cell? ⟨b, off + i, none⟩ = some (.slice (some ⟨b2, off2, none⟩) 4 c2) ∧ W.cell? ⟨b2, off2 + j * 2, none⟩ = some (.bool h1) ∧ W.cell? ⟨b2, off2 + j * 2 + 1, none⟩ = some (.slice A6 n6 c6) ∧ W.cell? ⟨b2, off2 + k * 2, none⟩ = some (.bool h1) ∧ W.cell? ⟨b2, off2 + k * 2 + 1, none⟩ = some (.slice A7 n7 c7)) := fun W hb => ⟨(hb.cell (p := ⟨b3, off3 + j, none⟩) hb3).trans d0, (hb.cell (p := ⟨b3, off3 + k, none⟩) hb3).trans d1, (hb.cell (p := ⟨b5, off5 + j, none⟩) hb5).trans g0, (hb.cell (p := ⟨b5, off5 + k, none⟩) hb5).trans g1, (hb.cell (p := ⟨b, off + i, none⟩) hbr).trans f0, (hb.cell (p := ⟨b2, off2 + j * 2, none⟩) hb2r).trans f1, (hb.cell (p := ⟨b2, off2 + j * 2 + 1, none⟩) hb2r).trans f2, (hb.cell (p := ⟨b2, off2 + k * 2, none⟩) hb2r).trans f3, (hb.cell (p := ⟨b2, off2 + k * 2 + 1, none⟩) hb2r).trans f4⟩
        go_wp2_with fail
        refine plain_region (fun W' => W'.cell? ⟨b3, off3 + j, none⟩ = some (.int .i64 a1) ∧ W'.cell? ⟨b3, off3 + k, none⟩ = some (.int .i64 a1) ∧ W'.cell? ⟨b5, off5 + j, none⟩ = some (.int .i64 a3) ∧ W'.cell? ⟨b5, off5 + k, none⟩ = some (.int .i64 a3) ∧ W'.cell? ⟨b, off + i, none⟩ = some (.slice (some ⟨b2, off2, none⟩) 4 c2) ∧ W'.cell? ⟨b2, off2 + j * 2, none⟩ = some (.bool h1) ∧ W'.cell? ⟨b2, off2 + j * 2 + 1, none⟩ = some (.slice A6 n6 c6) ∧ W'.cell? ⟨b2, off2 + k * 2, none⟩ = some (.bool h1) ∧ W'.cell? ⟨b2, off2 + k * 2 + 1, none⟩ = some (.slice A7 n7 c7)) (by kernel_rfl) hS (fun hHeld => ?_)
        (refine' anyT_tk 0 rfl ?_; (try simp only [Act.put, nY, nX])); (refine' anyT_tk 1 rfl ?_; (try simp only [Act.put, nY, nX])); (refine' anyT_tk 2 rfl ?_; (try simp only [Act.put, nY, nX])); (refine' anyT_tk 3 rfl ?_; (try simp only [Act.put, nY, nX])); (refine' anyT_tk 4 rfl ?_; (try simp only [Act.put, nY, nX])); (refine' anyT_tk 5 rfl ?_; (try simp only [Act.put, nY, nX])); (refine' anyT_tk 6 rfl ?_; (try simp only [Act.put, nY, nX])); (refine' anyT_tk 7 rfl ?_; (try simp only [Act.put, nY, nX])); (refine' anyT_tk 8 rfl ?_; (try simp only [Act.put, nY, nX])); (refine' anyT_tk 9 rfl ?_; (try simp only [Act.put, nY, nX])); (refine' anyT_tk 10 rfl ?_; (try simp only [Act.put, nY, nX])); (refine' anyT_tk 11 rfl ?_; (try simp only [Act.put, nY, nX])); (refine' anyT_tk 12 rfl ?_; (try simp only [Act.put, nY, nX])); (refine' anyT_tk 13 rfl ?_; (try simp only [Act.put, nY, nX])); (refine' anyT_tk 14 rfl ?_; (try simp only [Act.put, nY, nX])); (refine' anyT_tk 15 rfl ?_; (try simp only [Act.put, nY, nX])); (refine' anyT_tk 16 rfl ?_; (try simp only [Act.put, nY, nX])); (refine' anyT_tk 17 rfl ?_; (try simp only [Act.put, nY, nX])); (refine' anyT_tk 18 rfl ?_; (try simp only [Act.put, nY, nX])); (refine' anyT_tk 19 rfl ?_; (try simp only [Act.put, nY, nX])); (refine' anyT_tk 20 rfl ?_; (try simp only [Act.put, nY, nX])); (refine' anyT_tk 21 rfl ?_; (try simp only [Act.put, nY, nX])); (refine' anyT_tk 22 rfl ?_; (try simp only [Act.put, nY, nX]))
        clear hHeld hS d0 d1 g0 g1 f0 f1 f2 f3 f4
        (refine anyT_sp 23 rfl (fun K' hK' => ?_); simp only [nY]; go_simp)
        have hbd : Below wr.heap.size wr wr.drew := (Below.refl _ _).drew
        refine (r29Equal_c ⟨h1, (A6, n6, c6, ws6)⟩ ⟨h1, (A7, n7, c7, ws6)⟩ wr.drew (HW1.out.below hbd rr) (HW2.out.below hbd rr)).mono ?_
        rintro e wd ⟨rfl, hbe⟩
        rw [World.size_drew] at hbe
        rw [show decide (FormR.data ⟨h1, (A6, n6, c6, ws6)⟩ = FormR.data ⟨h1, (A7, n7, c7, ws6)⟩) = true from decide_eq_true rfl]
        have hbf := hbd.trans hbe
        have hS := HSB.out _ hbf
        refine hK' _ _ ⟨.inr hS, fun _ => ?_⟩
        clear hK' K' hbd hbe
        (try simp only [Act.put, nY, nX])
        (refine' anyT_tk 24 rfl ?_; (try simp only [Act.put, nY, nX])); (refine' anyT_tk 25 rfl ?_; (try simp only [Act.put, nY, nX])); (refine' anyT_tk 26 rfl ?_; (try simp only [Act.put, nY, nX])); (refine' anyT_tk 27 rfl ?_; (try simp only [Act.put, nY, nX])); (refine' anyT_tk 28 rfl ?_; (try simp only [Act.put, nY, nX])); (refine' anyT_tk 29 rfl ?_; (try simp only [Act.put, nY, nX])); (refine' anyT_tk 30 rfl ?_; (try simp only [Act.put, nY, nX])); (refine' anyT_tk 31 rfl ?_; (try simp only [Act.put, nY, nX])); (refine' anyT_tk 32 rfl ?_; (try simp only [Act.put, nY, nX])); (refine' anyT_tk 33 rfl ?_; (try simp only [Act.put, nY, nX])); (refine' anyT_tk 34 rfl ?_; (try simp only [Act.put, nY, nX])); (refine' anyT_tk 35 rfl ?_; (try simp only [Act.put, nY, nX])); (refine' anyT_tk 36 rfl ?_; (try simp only [Act.put, nY, nX])); (refine' anyT_tk 37 rfl ?_; (try simp only [Act.put, nY, nX])); (refine' anyT_tk 38 rfl ?_; (try simp only [Act.put, nY, nX])); (refine' anyT_tk 39 rfl ?_; (try simp only [Act.put, nY, nX])); (refine' anyT_tk 40 rfl ?_; (try simp only [Act.put, nY, nX])); (refine' anyT_tk 41 rfl ?_; (try simp only [Act.put, nY, nX])); (refine' anyT_tk 42 rfl ?_; (try simp only [Act.put, nY, nX])); (refine' anyT_tk 43 rfl ?_; (try simp only [Act.put, nY, nX])); (refine' anyT_tk 44 rfl ?_; (try simp only [Act.put, nY, nX])); (refine' anyT_tk 45 rfl ?_; (try simp only [Act.put, nY, nX]))
        (refine anyT_sp 46 rfl (fun K' hK' => ?_); simp only [nY]; go_simp)
        refine hK' _ _ ⟨.inl (by kernel_rfl), fun _ => anyT_done (by kernel_rfl) ?_ _⟩
        clear hK' K' hS
        have hB10 := hB9.trans (hbf.mono hB9.size)
        go_wp2
        go_roundw
        case rel => exact ⟨j + 1, by go_num, by omega, hB10⟩
        case measure => simp [intOf]; omega
       ·have hne : ¬ ((h1, ws6) : Frm) = (h2, ws7) := fun e => hjk (hiff.2 (by rw [e]))
        have hae : (a1 == a2) = false := by
         rw [← ha1, ← ha2, beq_eq_false_iff_ne]
         exact fun e => hjk (by exact_mod_cast e)
        have hane : ¬ a1 = a2 := by simpa using hae
        clear ha1 ha2 ha3 ha4 hiff hgl hjk hj' hk'
        have hS : wr.cell? ⟨b3, off3 + j, none⟩ = some (.int .i64 a1) ∧ wr.cell? ⟨b3, off3 + k, none⟩ = some (.int .i64 a2) ∧ wr.cell? ⟨b5, off5 + j, none⟩ = some (.int .i64 a3) ∧ wr.cell? ⟨b5, off5 + k, none⟩ = some (.int .i64 a4) ∧ wr.cell? ⟨b, off + i, none⟩ = some (.slice (some ⟨b2, off2, none⟩) 4 c2) ∧ wr.cell? ⟨b2, off2 + j * 2, none⟩ = some (.bool h1) ∧ wr.cell? ⟨b2, off2 + j * 2 + 1, none⟩ = some (.slice A6 n6 c6) ∧ wr.cell? ⟨b2, off2 + k * 2, none⟩ = some (.bool h2) ∧ wr.cell? ⟨b2, off2 + k * 2 + 1, none⟩ = some (.slice A7 n7 c7) := ⟨d0, d1, g0, g1, f0, f1, f2, f3, f4⟩
        have HSB : Hid (∀ W : World, Below wr.heap.size wr W → W.cell? ⟨b3, off3 + j, none⟩ = some (.int .i64 a1) ∧ W.cell? ⟨b3, off3 + k, none⟩ = some (.int .i64 a2) ∧ W.cell? ⟨b5, off5 + j, none⟩ = some (.int .i64 a3) ∧ W.cell? ⟨b5, off5 + k, none⟩ = some (.int .i64 a4) ∧ W.cell? ⟨b, off + i, none⟩ = some (.slice (some ⟨b2, off2, none⟩) 4 c2) ∧ W.cell? ⟨b2, off2 + j * 2, none⟩ = some (.bool h1) ∧ W.cell? ⟨b2, off2 + j * 2 + 1, none⟩ = some (.slice A6 n6 c6) ∧ W.cell? ⟨b2, off2 + k * 2, none⟩ = some (.bool h2) ∧ W.cell? ⟨b2, off2 + k * 2 + 1, none⟩ = some (.slice A7 n7 c7)) := fun W hb => ⟨(hb.cell (p := ⟨b3, off3 + j, none⟩) hb3).trans d0, (hb.cell (p := ⟨b3, off3 + k, none⟩) hb3).trans d1, (hb.cell (p := ⟨b5, off5 + j, none⟩) hb5).trans g0, (hb.cell (p := ⟨b5, off5 + k, none⟩) hb5).trans g1, (hb.cell (p := ⟨b, off + i, none⟩) hbr).trans f0, (hb.cell (p := ⟨b2, off2 + j * 2, none⟩) hb2r).trans f1, (hb.cell (p := ⟨b2, off2 + j * 2 + 1, none⟩) hb2r).trans f2, (hb.cell (p := ⟨b2, off2 + k * 2, none⟩) hb2r).trans f3, (hb.cell (p := ⟨b2, off2 + k * 2 + 1, none⟩) hb2r).trans f4⟩
        go_wp2_with fail
        refine plain_region (fun W' => W'.cell? ⟨b3, off3 + j, none⟩ = some (.int .i64 a1) ∧ W'.cell? ⟨b3, off3 + k, none⟩ = some (.int .i64 a2) ∧ W'.cell? ⟨b5, off5 + j, none⟩ = some (.int .i64 a3) ∧ W'.cell? ⟨b5, off5 + k, none⟩ = some (.int .i64 a4) ∧ W'.cell? ⟨b, off + i, none⟩ = some (.slice (some ⟨b2, off2, none⟩) 4 c2) ∧ W'.cell? ⟨b2, off2 + j * 2, none⟩ = some (.bool h1) ∧ W'.cell? ⟨b2, off2 + j * 2 + 1, none⟩ = some (.slice A6 n6 c6) ∧ W'.cell? ⟨b2, off2 + k * 2, none⟩ = some (.bool h2) ∧ W'.cell? ⟨b2, off2 + k * 2 + 1, none⟩ = some (.slice A7 n7 c7)) (by kernel_rfl) hS (fun hHeld => ?_)
        (refine' anyT_tk 0 rfl ?_; (try simp only [Act.put, nY, nX])); (refine' anyT_tk 1 rfl ?_; (try simp only [Act.put, nY, nX])); (refine' anyT_tk 2 rfl ?_; (try simp only [Act.put, nY, nX])); (refine' anyT_tk 3 rfl ?_; (try simp only [Act.put, nY, nX])); (refine' anyT_tk 4 rfl ?_; (try simp only [Act.put, nY, nX])); (refine' anyT_tk 5 rfl ?_; (try simp only [Act.put, nY, nX])); (refine' anyT_tk 6 rfl ?_; (try simp only [Act.put, nY, nX])); (refine' anyT_tk 7 rfl ?_; (try simp only [Act.put, nY, nX])); (refine' anyT_tk 8 rfl ?_; (try simp only [Act.put, nY, nX])); (refine' anyT_tk 9 rfl ?_; (try simp only [Act.put, nY, nX])); (refine' anyT_tk 10 rfl ?_; (try simp only [Act.put, nY, nX])); (refine' anyT_tk 11 rfl ?_; (try simp only [Act.put, nY, nX])); (refine' anyT_tk 12 rfl ?_; (try simp only [Act.put, nY, nX])); (refine' anyT_tk 13 rfl ?_; (try simp only [Act.put, nY, nX])); (refine' anyT_tk 14 rfl ?_; (try simp only [Act.put, nY, nX])); (refine' anyT_tk 15 rfl ?_; (try simp only [Act.put, nY, nX])); (refine' anyT_tk 16 rfl ?_; (try simp only [Act.put, nY, nX])); (refine' anyT_tk 17 rfl ?_; (try simp only [Act.put, nY, nX])); (refine' anyT_tk 18 rfl ?_; (try simp only [Act.put, nY, nX])); (refine' anyT_tk 19 rfl ?_; (try simp only [Act.put, nY, nX])); (refine' anyT_tk 20 rfl ?_; (try simp only [Act.put, nY, nX])); (refine' anyT_tk 21 rfl ?_; (try simp only [Act.put, nY, nX])); (refine' anyT_tk 22 rfl ?_; (try simp only [Act.put, nY, nX]))
        clear hHeld hS d0 d1 g0 g1 f0 f1 f2 f3 f4
        (refine anyT_sp 23 rfl (fun K' hK' => ?_); simp only [nY]; go_simp)
        have hbd : Below wr.heap.size wr wr.drew := (Below.refl _ _).drew
        refine (r29Equal_c ⟨h1, (A6, n6, c6, ws6)⟩ ⟨h2, (A7, n7, c7, ws7)⟩ wr.drew (HW1.out.below hbd rr) (HW2.out.below hbd rr)).mono ?_
        rintro e wd ⟨rfl, hbe⟩
        rw [World.size_drew] at hbe
        rw [show decide (FormR.data ⟨h1, (A6, n6, c6, ws6)⟩ = FormR.data ⟨h2, (A7, n7, c7, ws7)⟩) = false from decide_eq_false hne]
        have hbf := hbd.trans hbe
        have hS := HSB.out _ hbf
        refine hK' _ _ ⟨.inr hS, fun _ => ?_⟩
        clear hK' K' hbd hbe
        (try simp only [Act.put, nY, nX])
        (refine' anyT_tk 24 rfl ?_; (try simp only [Act.put, nY, nX])); (refine' anyT_tk 25 rfl ?_; (try simp only [Act.put, nY, nX])); (refine' anyT_tk 26 rfl ?_; (try simp only [Act.put, nY, nX])); (refine' anyT_tk 27 rfl ?_; (try simp only [Act.put, nY, nX])); (refine' anyT_tk 28 rfl ?_; (try simp only [Act.put, nY, nX])); (refine' anyT_tk 29 rfl ?_; (try simp only [Act.put, nY, nX])); (refine' anyT_tk 30 rfl ?_; (try simp only [Act.put, nY, nX])); (refine' anyT_tk 31 rfl ?_; (try simp only [Act.put, nY, nX])); (refine' anyT_tk 32 rfl ?_; (try simp only [Act.put, nY, nX])); (refine' anyT_tk 33 rfl ?_; (try simp only [Act.put, nY, nX])); (refine' anyT_tk 34 rfl ?_; (try simp only [Act.put, nY, nX])); (refine' anyT_tk 35 rfl ?_; (try simp only [Act.put, nY, nX]))
        refine' anyT_take (i := 36) (v := undef) rfl (by as_aux_lemma => kernel_rfl) (by as_aux_lemma => kernel_rfl) (by as_aux_lemma => kernel_rfl) (by as_aux_lemma => kernel_rfl) (fun _ _ _ h => h) (Or.inr ⟨by as_aux_lemma => kernel_rfl, rfl⟩) hS ?_
        (try simp only [Act.put, nY, nX])
        refine' anyT_take (i := 37) (v := undef) rfl (by as_aux_lemma => kernel_rfl) (by as_aux_lemma => kernel_rfl) (by as_aux_lemma => kernel_rfl) (by as_aux_lemma => kernel_rfl) (fun _ _ _ h => h) (Or.inr ⟨by as_aux_lemma => kernel_rfl, rfl⟩) hS ?_
        (try simp only [Act.put, nY, nX])
        refine' anyT_take (i := 38) (v := undef) rfl (by as_aux_lemma => kernel_rfl) (by as_aux_lemma => kernel_rfl) (by as_aux_lemma => kernel_rfl) (by as_aux_lemma => kernel_rfl) (fun _ _ _ h => h) (Or.inr ⟨by as_aux_lemma => kernel_rfl, rfl⟩) hS ?_
        (try simp only [Act.put, nY, nX])
        refine' anyT_take (i := 39) (v := undef) rfl (by as_aux_lemma => kernel_rfl) (by as_aux_lemma => kernel_rfl) (by as_aux_lemma => kernel_rfl) (by as_aux_lemma => kernel_rfl) (fun _ _ _ h => h) (Or.inr ⟨by as_aux_lemma => kernel_rfl, rfl⟩) hS ?_
        (try simp only [Act.put, nY, nX])
        refine' anyT_take (i := 40) (v := undef) rfl (by as_aux_lemma => kernel_rfl) (by as_aux_lemma => kernel_rfl) (by as_aux_lemma => kernel_rfl) (by as_aux_lemma => kernel_rfl) (fun _ _ _ h => h) (Or.inr ⟨by as_aux_lemma => kernel_rfl, rfl⟩) hS ?_
        (try simp only [Act.put, nY, nX])
        refine' anyT_take (i := 41) (v := undef) rfl (by as_aux_lemma => kernel_rfl) (by as_aux_lemma => kernel_rfl) (by as_aux_lemma => kernel_rfl) (by as_aux_lemma => kernel_rfl) (fun _ _ _ h => h) (Or.inr ⟨by as_aux_lemma => kernel_rfl, rfl⟩) hS ?_
        (try simp only [Act.put, nY, nX])
        refine' anyT_take (i := 42) (v := undef) rfl (by as_aux_lemma => kernel_rfl) (by as_aux_lemma => kernel_rfl) (by as_aux_lemma => kernel_rfl) (by as_aux_lemma => kernel_rfl) (fun _ _ _ h => h) (Or.inr ⟨by as_aux_lemma => kernel_rfl, rfl⟩) hS ?_
        (try simp only [Act.put, nY, nX])
        refine' anyT_take (i := 43) (v := undef) rfl (by as_aux_lemma => kernel_rfl) (by as_aux_lemma => kernel_rfl) (by as_aux_lemma => kernel_rfl) (by as_aux_lemma => kernel_rfl) (fun _ _ _ h => h) (Or.inr ⟨by as_aux_lemma => kernel_rfl, rfl⟩) hS ?_
        (try simp only [Act.put, nY, nX])
        refine' anyT_take (i := 44) (v := undef) rfl (by as_aux_lemma => kernel_rfl) (by as_aux_lemma => kernel_rfl) (by as_aux_lemma => kernel_rfl) (by as_aux_lemma => kernel_rfl) (fun _ _ _ h => h) (Or.inr ⟨by as_aux_lemma => kernel_rfl, rfl⟩) hS ?_
        (try simp only [Act.put, nY, nX])
        (refine' anyT_tk 45 rfl ?_; (try simp only [Act.put, nY, nX]))
        (refine anyT_sp 46 rfl (fun K' hK' => ?_); simp only [nY]; go_simp)
        refine hK' _ _ ⟨.inl (by kernel_rfl), fun _ => anyT_done (by kernel_rfl) ?_ _⟩
        clear hK' K' hS
        have hB10 := hB9.trans (hbf.mono hB9.size)
        go_wp2
        go_roundw
        case rel => exact ⟨j + 1, by go_num, by omega, hB10⟩
        case measure => simp [intOf]; omega
      ·have hj1 : ¬ (j : Int) < (k : Int) := by omega
       go_wp2
       go_roundw
       case rel => exact ⟨k + 1, by go_num, by omega, hB9⟩
       case measure => simp [intOf]; omega
    ·have hk1 : ¬ (k : Int) < (4 : Int) := by omega
     have HK8 : Hid (wr.heap[bc]? = some (.cells #[.int .u32 cp, .int .u32 cm] 24 (0, 0))) := (hB8.block bc (lt_of_block HK7.out)).trans HK7.out
     have hB9 := HB7.out.trans (hB8.mono HB7.out.size)
     go_wp2
     go_roundw
     case rel => exact ⟨i + 1, by go_num, by omega, HK8.out, hB9⟩
     case measure => simp [intOf]; omega
  ·have hi1 : ¬ (i : Int) < (n1 : Int) := by omega
   have hBB := HB1.out.trans (hB.mono HB1.out.size)
   go_wp2_with fail
   refine (works29_c _ (HT.out.below hBB rr)).mono ?_
   rintro e w9 ⟨rfl, hbw⟩
   go_wp2
   go_ret
   exact ⟨rfl, hBB.trans (hbw.mono hBB.size)⟩
end Go.Proofs.YtcpcojgmmpnkoaaGreatDoor

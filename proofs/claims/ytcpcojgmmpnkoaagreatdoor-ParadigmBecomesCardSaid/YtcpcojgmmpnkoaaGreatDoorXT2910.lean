/-
  ablautlaw29.ParadigmBecomes is true.
-/
import Derived.Test.YtcpcojgmmpnkoaaGreatDoorG76
import Derived.Test.YtcpcojgmmpnkoaaGreatDoorXLight25
import Derived.Test.YtcpcojgmmpnkoaaGreatDoorG67
set_option linter.all false
set_option maxRecDepth 100000
set_option maxHeartbeats 4000000
namespace Go.Proofs.YtcpcojgmmpnkoaaGreatDoor
open Go.RowKit Go.Shelf
theorem parBecomes_c (A : Option Addr) (n c : Nat) (l : List Nat) (A' : Option Addr) (n' c' : Nat) (xs : List LawR) (q : Int) (lo : 0 ≤ q) (hi : q ≤ 255) (w : World) (hx : IsNums w A n c l) (hl : IsLaws w A' n' c' xs) (hT : TabOK w) :
  Calls Tryz.prog 13 #[.slice A n c, .slice A' n' c', .int .u8 q] w (RetTrue w) := by
 have hm := hx.max
 have hml := hl.max
 have HX := hI hx
 have HL := hI hl
 have HT := hI hT
 clear hx hl hT
 by_cases h6 : 6 < n'
 ·have h6' : (6 : Int) < (n' : Int) := by omega
  have hB0 : Below w.heap.size w w := Below.refl _ _
  go_enter Tryz.func13, Tryz.ntmps13
  go_wp2_with fail
  refine (works29_c _ (HT.out.below hB0 rr)).mono ?_
  rintro e w9 ⟨rfl, hbw⟩
  go_wp2
  go_ret
  exact ⟨rfl, hB0.trans (hbw.mono hB0.size)⟩
 have h6' : ¬ (6 : Int) < (n' : Int) := by omega
 go_enter Tryz.func13, Tryz.ntmps13
 go_wp2_with fail
 refine (light25_c A' n' c' xs w HL.out).mono ?_
 rintro e w0 ⟨⟨b, rfl⟩, hB0⟩
 cases b with
 | false => go_wp2_with fail
            refine (works29_c _ (HT.out.below hB0 rr)).mono ?_
            rintro e w9 ⟨rfl, hbw⟩
            go_wp2
            go_ret
            exact ⟨rfl, hB0.trans (hbw.mono hB0.size)⟩
 | true =>
  have HB0 := hI hB0
  go_wp2_with fail
  refine (made_c A n c l w0 (HX.out.below hB0 rr)).mono ?_
  clear hB0
  obtain ⟨T, hT⟩ : ∃ T, T = madeM l := ⟨_, rfl⟩
  rw [← hT]
  have HR4 : Hid (∀ r ∈ T, Row4 3 r) := by show ∀ r ∈ T, _; rw [hT]; exact made_rows l
  have hT8 : T.length ≤ 8 := by rw [hT]; exact made_len l
  have HPE : Hid (parE T = 0) := par_zero (b := 3) (by omega) (by omega) HR4.out
  clear hT
  rintro e w1 ⟨A1, n1, c1, rfl, hp1, hb1⟩
  have hn8 : n1 ≤ 8 := by rw [← hp1.len]; exact hT8
  have HTL : Hid (T.length = n1) := hp1.len
  have HP1 := hI hp1
  have HB1 := hI (HB0.out.trans (hb1.mono HB0.out.size))
  clear hp1 hb1 hT8
  have HLN : Hid (IsLaws w1 none 0 0 []) := ⟨⟨Cells.nil _ _, rfl⟩, fun x hx => by cases hx⟩
  go_wp2_with fail
  refine (pDerive_c A1 n1 c1 T none 0 0 [] w1 HP1.out HLN.out (HT.out.below HB1.out rr)).mono ?_
  rw [show lawsD [] = [] from rfl, der_none HPE.out]
  rintro e w2 ⟨A2, n2, c2, rfl, hp2, hb2⟩
  have HP2 := hI hp2
  have HB2 := hI (HB1.out.trans (hb2.mono HB1.out.size))
  have HP12 := hI (HP1.out.below hb2 rr)
  clear hp2 hb2
  go_wp2_with fail
  refine (pDerive_c A1 n1 c1 T A' n' c' xs w2 HP12.out (HL.out.below HB2.out rr) (HT.out.below HB2.out rr)).mono ?_
  obtain ⟨r, hr⟩ : ∃ r, r = pDerM T (lawsD xs) := ⟨_, rfl⟩
  rw [← hr]
  have HR := hI hr
  clear hr
  rintro e w3 ⟨A4, n4, c4, rfl, hp4, hb3⟩
  have HP43 := hI hp4
  have HB3 := hI (HB2.out.trans (hb3.mono HB2.out.size))
  have HP13 := hI (HP12.out.below hb3 rr)
  have HP23 := hI (HP2.out.below hb3 rr)
  clear hp4 hb3
  go_wp2_with fail
  refine (same29_c A2 A1 n2 n1 c2 c1 _ _ w3 HP23.out HP13.out).mono ?_
  rintro e w4 ⟨rfl, hb4⟩
  rw [decide_eq_true rfl]
  have hB4 := HB3.out.trans (hb4.mono HB3.out.size)
  by_cases hr0 : r.1 = 0
  case neg =>
   have h1 : (r.1 != 0) = true := by simpa using hr0
   have hz : r.2 = [] := by rw [HR.out]; exact der_len T _ (by rw [← HR.out]; exact hr0)
   have hn0 : n4 = 0 := by rw [← HP43.out.len, hz]; rfl
   subst hn0
   clear hz hr0
   go_wp2_with fail
   refine (works29_c _ (HT.out.below hB4 rr)).mono ?_
   rintro e w9 ⟨rfl, hbw⟩
   go_wp2
   go_ret
   exact ⟨rfl, hB4.trans (hbw.mono hB4.size)⟩
  have h1 : (r.1 != 0) = false := by simpa using hr0
  have HB4 := hI hB4
  have HP4 := hI (HP43.out.below hb4 rr)
  have HP14 := hI (HP13.out.below hb4 rr)
  have hg : (pDerM T (lawsD xs)).1 = 0 := by rw [← HR.out]; exact hr0
  have hre := (der_good hg).2.2.2
  rw [← HR.out] at hre
  have HRE := hI hre
  obtain ⟨k, hk⟩ : ∃ k : Nat, q % ((n' : Int) + 1) = k := ⟨(q % ((n' : Int) + 1)).toNat, by have := Int.emod_nonneg q (b := (n' : Int) + 1) (by omega); omega⟩
  have hkn : k ≤ n' := by have := Int.emod_lt_of_pos q (b := (n' : Int) + 1) (by omega); omega
  have HG := hI (der_parts HR4.out (by rw [HTL.out]; omega) hg k)
  have HPA := hI HG.out.1
  have HPB : Hid (pDerM (T.map fun l => l.map (derF ((lawsD xs).take k))) ((lawsD xs).drop k) = (0, T.map fun l => l.map (derF (lawsD xs)))) := by show _ = _; rw [HG.out.2, ← HR.out]; exact HRE.out
  have HTKe : Hid (lawsD (xs.take k) = (lawsD xs).take k) := by show lawsD (xs.take k) = _; simp [lawsD, List.map_take]
  have HDK : Hid (IsLaws w (if c' = k then A' else A'.map (·.add (k * 18))) (n' - k) (c' - k) (xs.drop k)) := HL.out.drop hkn
  have HDKe : Hid (lawsD (xs.drop k) = (lawsD xs).drop k) := by show lawsD (xs.drop k) = _; simp [lawsD, List.map_drop]
  subst hre
  have hk63 : (k : Int) ≤ (c' : Int) := by omega
  have hk0 : (0 : Int) ≤ (k : Int) := by omega
  have hkn' : (k : Int) ≤ (n' : Int) := by omega
  clear hg hr0 hb4 hB4 HG HR
  go_wp2_with fail
  rw [hk]
  clear hk
  by_cases hck : c' = k
  ·have hnk : n' = k := by omega
   subst hck
   subst hnk
   have HDK' : Hid (IsLaws w A' 0 0 (xs.drop n')) := by have h := HDK.out; rw [if_pos rfl, Nat.sub_self] at h; exact h
   clear HDK
   have HDK := HDK'; clear HDK'
   have HBV : Hid (Below w.heap.size w w4) := HB4.out
   go_wp2_with fail
   refine (pDerive_c A1 n1 c1 T A' n' n' (xs.take n') w4 (HP14.out) ((HL.out.take hkn).below HB4.out rr) (HT.out.below HB4.out rr)).mono ?_
   rw [HTKe.out, HPA.out]
   rintro e w5 ⟨A5, n5, c5, rfl, hp5, hb5⟩
   have HP5 := hI hp5
   have HB5 := hI (HB4.out.trans (hb5.mono HB4.out.size))
   have HP15 := hI (HP14.out.below hb5 rr)
   have HP45 := hI (HP4.out.below hb5 rr)
   clear hp5 hb5
   go_wp2_with fail
   try rw [← hAK]
   try clear hAK
   refine (pDerive_c A5 n5 c5 _ _ _ _ (xs.drop n') w5 HP5.out (HDK.out.below HB5.out rr) (HT.out.below HB5.out rr)).mono ?_
   rw [HDKe.out, HPB.out]
   rintro e w6 ⟨A6, n6, c6, rfl, hp6, hb6⟩
   have HP6 := hI hp6
   have HB6 := hI (HB5.out.trans (hb6.mono HB5.out.size))
   have HP16 := hI (HP15.out.below hb6 rr)
   have HP46 := hI (HP45.out.below hb6 rr)
   clear hp6 hb6
   go_wp2_with fail
   refine (same29_c A6 A4 n6 n4 c6 c4 _ _ w6 HP6.out HP46.out).mono ?_
   rintro e w7 ⟨rfl, hb7⟩
   rw [decide_eq_true rfl]
   have HB7 := hI (HB6.out.trans (hb7.mono HB6.out.size))
   have HP17 := hI (HP16.out.below hb7 rr)
   have HP47 := hI (HP46.out.below hb7 rr)
   clear hb7
   have hn41 : n4 = n1 := by rw [← HP47.out.len, ← HP17.out.len, List.length_map]
   subst hn41
   have hnn : ((n4 : Int) != (n4 : Int)) = false := by simp
   go_wp2_with fail
   try rw [← hAK]
   try clear hAK
   clear hnn
   go_loopw [17] (fun vi wr => ∃ i : Nat, vi = .int .i64 i ∧ i ≤ n4 ∧ Below w7.heap.size w7 wr) (fun vi _ => n4 - (intOf vi).toNat)
   case atStart => exact ⟨0, rfl, Nat.zero_le _, Below.refl _ _⟩
   case round =>
    obtain ⟨i, rfl, hi, hB8⟩ := hrel
    have hBB8 := HB7.out.trans (hB8.mono HB7.out.size)
    by_cases hlti : i < n4
    ·have hi1 : (i : Int) < (n4 : Int) := by omega
     obtain ⟨b, off, A2', n2', c2', r1, rfl, hbl, hc1, hlk, hfl⟩ := HP17.out.at_ hlti
     obtain ⟨b3, off3, A3', n3', c3', r3, rfl, hbl3, hc3, hlk3, hfl3⟩ := HP47.out.at_ hlti
     rw [List.getElem?_map, hlk] at hlk3
     obtain rfl : r1.map (derF (lawsD xs)) = r3 := by simpa using hlk3
     have hrow := HR4.out r1 (List.mem_of_getElem? hlk)
     have hn2 : n2' = 4 := by rw [← hfl.len]; exact hrow.1
     have hn3 : n3' = 4 := by rw [← hfl3.len, List.length_map]; exact hrow.1
     subst hn2 hn3
     have HF := hI hfl
     have HF3 := hI hfl3
     have HC1 := hI hc1
     have HC3 := hI hc3
     have HRW : Hid (r1.length = 4) := hrow.1
     have d3 := (hB8.cell (p := ⟨b3, off3 + i, none⟩) hbl3).trans hc3
     obtain ⟨wi, hwi⟩ : ∃ wi, wi = wr := ⟨_, rfl⟩
     rw [← hwi] at hB8
     have HWI := hI hwi
     clear hlk hfl hlk3 hfl3 hc1 hc3 hrow hwi
     go_wp2_with fail
     clear d3
     go_loopw [18] (fun vk wr => ∃ k : Nat, vk = .int .i64 k ∧ k ≤ 4 ∧ Below w7.heap.size w7 wr) (fun vk _ => 4 - (intOf vk).toNat)
     case atStart => exact ⟨0, rfl, Nat.zero_le _, by rw [← HWI.out]; exact hB8⟩
     case round =>
      obtain ⟨k, rfl, hk, hB9⟩ := hrel
      by_cases hltk : k < 4
      ·have hk1 : (k : Int) < (4 : Int) := by omega
       obtain ⟨b2, off2, h2, A6', n6', c6', ws2, rfl, hb2, e0, e1, hlr2, hwr2⟩ := HF.out.at_ hltk
       obtain ⟨b5, off5, h5, A7', n7', c7', ws5, rfl, hb5, g0, g1, hlr5, hwr5⟩ := HF3.out.at_ hltk
       rw [List.getElem?_map, hlr2] at hlr5
       obtain ⟨rfl, rfl⟩ : h2 = h5 ∧ (derF (lawsD xs) (h2, ws2)).2 = ws5 := by
        have h := Option.some.inj hlr5
        exact ⟨congrArg Prod.fst h, congrArg Prod.snd h⟩
       have d1 := (hB9.cell (p := ⟨b, off + i, none⟩) hbl).trans HC1.out
       have d3 := (hB9.cell (p := ⟨b3, off3 + i, none⟩) hbl3).trans HC3.out
       have f0 := (hB9.cell (p := ⟨b2, off2 + k * 2, none⟩) hb2).trans e0
       have f1 := (hB9.cell (p := ⟨b5, off5 + k * 2, none⟩) hb5).trans g0
       have HE1 := hI e1
       have HG1 := hI g1
       have HE0 := hI e0
       have HG0 := hI g0
       have HWK := hI hwr2
       have HWK5 := hI hwr5
       have HLK2 := hI hlr2
       have hne : (h2 != h2) = false := by simp
       clear e0 e1 g0 g1 hlr2 hlr5 hwr2 hwr5
       go_wp2_with fail
       go_quiet (fail)
       clear d1 d3 f0 f1 hne
       go_wp2_with fail
       go_loopw [19] (fun vj wr => ∃ j : Nat, vj = .int .i64 j ∧ j ≤ k ∧ Below w7.heap.size w7 wr) (fun vj _ => k - (intOf vj).toNat)
       case atStart => exact ⟨0, rfl, Nat.zero_le _, hB9.drewN _⟩
       case round =>
        obtain ⟨j, rfl, hj, hB10⟩ := hrel
        have hB10s := hB10.size
        by_cases hltj : j < k
        ·have hj1 : (j : Int) < (k : Int) := by omega
         have hj4 : (j : Int) < (4 : Int) := by omega
         obtain ⟨b2', off2', h6, A8', n8', c8', ws6, hA2, _, p0, p1, hlr6, hwr6⟩ := HF.out.at_ (k := j) (by omega)
         obtain ⟨b5', off5', h7, A9', n9', c9', ws7, hA5, _, q0, q1, hlr7, hwr7⟩ := HF3.out.at_ (k := j) (by omega)
         obtain ⟨rfl, rfl⟩ : b2 = b2' ∧ off2 = off2' := by simpa using hA2
         obtain ⟨rfl, rfl⟩ : b5 = b5' ∧ off5 = off5' := by simpa using hA5
         rw [List.getElem?_map, hlr6] at hlr7
         obtain ⟨rfl, rfl⟩ : h6 = h7 ∧ (derF (lawsD xs) (h6, ws6)).2 = ws7 := by
          have h := Option.some.inj hlr7
          exact ⟨congrArg Prod.fst h, congrArg Prod.snd h⟩
         have HSB : Hid (∀ W : World, Below w7.heap.size w7 W → W.cell? ⟨b, off + i, none⟩ = some (.slice (some ⟨b2, off2, none⟩) 4 c2') ∧ W.cell? ⟨b2, off2 + j * 2, none⟩ = some (.bool h6) ∧ W.cell? ⟨b2, off2 + j * 2 + 1, none⟩ = some (.slice A8' n8' c8') ∧ W.cell? ⟨b2, off2 + k * 2, none⟩ = some (.bool h2) ∧ W.cell? ⟨b2, off2 + k * 2 + 1, none⟩ = some (.slice A6' n6' c6') ∧ W.cell? ⟨b3, off3 + i, none⟩ = some (.slice (some ⟨b5, off5, none⟩) 4 c3') ∧ W.cell? ⟨b5, off5 + j * 2, none⟩ = some (.bool h6) ∧ W.cell? ⟨b5, off5 + j * 2 + 1, none⟩ = some (.slice A9' n9' c9') ∧ W.cell? ⟨b5, off5 + k * 2, none⟩ = some (.bool h2) ∧ W.cell? ⟨b5, off5 + k * 2 + 1, none⟩ = some (.slice A7' n7' c7')) := fun W hb => ⟨(hb.cell (p := ⟨b, off + i, none⟩) hbl).trans HC1.out, (hb.cell (p := ⟨b2, off2 + j * 2, none⟩) hb2).trans p0, (hb.cell (p := ⟨b2, off2 + j * 2 + 1, none⟩) hb2).trans p1, (hb.cell (p := ⟨b2, off2 + k * 2, none⟩) hb2).trans HE0.out, (hb.cell (p := ⟨b2, off2 + k * 2 + 1, none⟩) hb2).trans HE1.out, (hb.cell (p := ⟨b3, off3 + i, none⟩) hbl3).trans HC3.out, (hb.cell (p := ⟨b5, off5 + j * 2, none⟩) hb5).trans q0, (hb.cell (p := ⟨b5, off5 + j * 2 + 1, none⟩) hb5).trans q1, (hb.cell (p := ⟨b5, off5 + k * 2, none⟩) hb5).trans HG0.out, (hb.cell (p := ⟨b5, off5 + k * 2 + 1, none⟩) hb5).trans HG1.out⟩
         have HWJ := hI hwr6
         have HWJ5 := hI hwr7
         clear hA2 hA5 p0 p1 q0 q1 hlr6 hlr7 hwr6 hwr7
         have hS := HSB.out _ hB10
         go_wp2_with fail
         refine plain_region (fun W' => W'.cell? ⟨b, off + i, none⟩ = some (.slice (some ⟨b2, off2, none⟩) 4 c2') ∧ W'.cell? ⟨b2, off2 + j * 2, none⟩ = some (.bool h6) ∧ W'.cell? ⟨b2, off2 + j * 2 + 1, none⟩ = some (.slice A8' n8' c8') ∧ W'.cell? ⟨b2, off2 + k * 2, none⟩ = some (.bool h2) ∧ W'.cell? ⟨b2, off2 + k * 2 + 1, none⟩ = some (.slice A6' n6' c6') ∧ W'.cell? ⟨b3, off3 + i, none⟩ = some (.slice (some ⟨b5, off5, none⟩) 4 c3') ∧ W'.cell? ⟨b5, off5 + j * 2, none⟩ = some (.bool h6) ∧ W'.cell? ⟨b5, off5 + j * 2 + 1, none⟩ = some (.slice A9' n9' c9') ∧ W'.cell? ⟨b5, off5 + k * 2, none⟩ = some (.bool h2) ∧ W'.cell? ⟨b5, off5 + k * 2 + 1, none⟩ = some (.slice A7' n7' c7')) (by kernel_rfl) hS (fun hHeld => ?_)
         (refine' anyT_tk 0 rfl ?_; (try simp only [Act.put, nY, nX])); (refine' anyT_tk 1 rfl ?_; (try simp only [Act.put, nY, nX])); (refine' anyT_tk 2 rfl ?_; (try simp only [Act.put, nY, nX])); (refine' anyT_tk 3 rfl ?_; (try simp only [Act.put, nY, nX])); (refine' anyT_tk 4 rfl ?_; (try simp only [Act.put, nY, nX])); (refine' anyT_tk 5 rfl ?_; (try simp only [Act.put, nY, nX])); (refine' anyT_tk 6 rfl ?_; (try simp only [Act.put, nY, nX])); (refine' anyT_tk 7 rfl ?_; (try simp only [Act.put, nY, nX])); (refine' anyT_tk 8 rfl ?_; (try simp only [Act.put, nY, nX])); (refine' anyT_tk 9 rfl ?_; (try simp only [Act.put, nY, nX])); (refine' anyT_tk 10 rfl ?_; (try simp only [Act.put, nY, nX])); (refine' anyT_tk 11 rfl ?_; (try simp only [Act.put, nY, nX])); (refine' anyT_tk 12 rfl ?_; (try simp only [Act.put, nY, nX])); (refine' anyT_tk 13 rfl ?_; (try simp only [Act.put, nY, nX]))
         clear hHeld hS
         (refine anyT_sp 14 rfl (fun K' hK' => ?_); simp only [nY]; go_simp)
         have hbd : Below w7.heap.size w7 wr.drew := hB10.drew
         have hbsz : w7.heap.size ≤ wr.drew.heap.size := hbd.size
         refine (r29Equal_c ⟨h6, (A8', n8', c8', ws6)⟩ ⟨h2, (A6', n6', c6', ws2)⟩ wr.drew (HWJ.out.below hbd rr) (HWK.out.below hbd rr)).mono ?_
         rintro e wd ⟨rfl, hbe⟩
         have hBd := hbd.trans (hbe.mono hbsz)
         have hS := HSB.out _ hBd
         by_cases heq : ((h6, ws6) : Frm) = (h2, ws2)
         ·obtain ⟨rfl, rfl⟩ : h6 = h2 ∧ ws6 = ws2 := ⟨congrArg Prod.fst heq, congrArg Prod.snd heq⟩
          rw [show decide (FormR.data ⟨h6, (A8', n8', c8', ws6)⟩ = FormR.data ⟨h6, (A6', n6', c6', ws6)⟩) = true from decide_eq_true rfl]
          refine hK' _ _ ⟨.inr hS, fun _ => ?_⟩
          clear hK' K' hbd hbe hbsz heq
          (try simp only [Act.put, nY, nX])
          (refine' anyT_tk 15 rfl ?_; (try simp only [Act.put, nY, nX])); (refine' anyT_tk 16 rfl ?_; (try simp only [Act.put, nY, nX])); (refine' anyT_tk 17 rfl ?_; (try simp only [Act.put, nY, nX])); (refine' anyT_tk 18 rfl ?_; (try simp only [Act.put, nY, nX])); (refine' anyT_tk 19 rfl ?_; (try simp only [Act.put, nY, nX])); (refine' anyT_tk 20 rfl ?_; (try simp only [Act.put, nY, nX])); (refine' anyT_tk 21 rfl ?_; (try simp only [Act.put, nY, nX])); (refine' anyT_tk 22 rfl ?_; (try simp only [Act.put, nY, nX])); (refine' anyT_tk 23 rfl ?_; (try simp only [Act.put, nY, nX])); (refine' anyT_tk 24 rfl ?_; (try simp only [Act.put, nY, nX])); (refine' anyT_tk 25 rfl ?_; (try simp only [Act.put, nY, nX])); (refine' anyT_tk 26 rfl ?_; (try simp only [Act.put, nY, nX])); (refine' anyT_tk 27 rfl ?_; (try simp only [Act.put, nY, nX])); (refine' anyT_tk 28 rfl ?_; (try simp only [Act.put, nY, nX])); (refine' anyT_tk 29 rfl ?_; (try simp only [Act.put, nY, nX]))
          clear hS
          (refine anyT_sp 30 rfl (fun K' hK' => ?_); simp only [nY]; go_simp)
          refine (r29Equal_c ⟨h6, (A9', n9', c9', (derF (lawsD xs) (h6, ws6)).2)⟩ ⟨h6, (A7', n7', c7', (derF (lawsD xs) (h6, ws6)).2)⟩ wd (HWJ5.out.below hBd rr) (HWK5.out.below hBd rr)).mono ?_
          rintro e we ⟨rfl, hbe⟩
          have hBe := hBd.trans (hbe.mono hBd.size)
          have hS := HSB.out _ hBe
          rw [show decide (FormR.data ⟨h6, (A9', n9', c9', (derF (lawsD xs) (h6, ws6)).2)⟩ = FormR.data ⟨h6, (A7', n7', c7', (derF (lawsD xs) (h6, ws6)).2)⟩) = true from decide_eq_true rfl]
          refine hK' _ _ ⟨.inr hS, fun _ => ?_⟩
          clear hK' K' hbe
          (try simp only [Act.put, nY, nX])
          (refine' anyT_tk 31 rfl ?_; (try simp only [Act.put, nY, nX]))
          (refine anyT_sp 32 rfl (fun K' hK' => ?_); simp only [nY]; go_simp)
          refine hK' _ _ ⟨.inl (by kernel_rfl), fun _ => anyT_done (by kernel_rfl) ?_ _⟩
          clear hK' K' hS
          go_wp2
          go_roundw
          case rel => exact ⟨j + 1, by go_num, by omega, hBe⟩
          case measure => simp [intOf]; omega
         ·rw [show decide (FormR.data ⟨h6, (A8', n8', c8', ws6)⟩ = FormR.data ⟨h2, (A6', n6', c6', ws2)⟩) = false from decide_eq_false heq]
          refine hK' _ _ ⟨.inr hS, fun _ => ?_⟩
          clear hK' K' hbd hbe hbsz heq
          (try simp only [Act.put, nY, nX])
          (refine' anyT_tk 15 rfl ?_; (try simp only [Act.put, nY, nX]))
          refine' anyT_take (i := 16) (v := undef) rfl (by as_aux_lemma => kernel_rfl) (by as_aux_lemma => kernel_rfl) (by as_aux_lemma => kernel_rfl) (by as_aux_lemma => kernel_rfl) (fun _ _ _ h => h) (Or.inr ⟨by as_aux_lemma => kernel_rfl, rfl⟩) hS ?_
          (try simp only [Act.put, nY, nX])
          refine' anyT_take (i := 17) (v := undef) rfl (by as_aux_lemma => kernel_rfl) (by as_aux_lemma => kernel_rfl) (by as_aux_lemma => kernel_rfl) (by as_aux_lemma => kernel_rfl) (fun _ _ _ h => h) (Or.inr ⟨by as_aux_lemma => kernel_rfl, rfl⟩) hS ?_
          (try simp only [Act.put, nY, nX])
          refine' anyT_take (i := 18) (v := undef) rfl (by as_aux_lemma => kernel_rfl) (by as_aux_lemma => kernel_rfl) (by as_aux_lemma => kernel_rfl) (by as_aux_lemma => kernel_rfl) (fun _ _ _ h => h) (Or.inr ⟨by as_aux_lemma => kernel_rfl, rfl⟩) hS ?_
          (try simp only [Act.put, nY, nX])
          refine' anyT_take (i := 19) (v := undef) rfl (by as_aux_lemma => kernel_rfl) (by as_aux_lemma => kernel_rfl) (by as_aux_lemma => kernel_rfl) (by as_aux_lemma => kernel_rfl) (fun _ _ _ h => h) (Or.inr ⟨by as_aux_lemma => kernel_rfl, rfl⟩) hS ?_
          (try simp only [Act.put, nY, nX])
          refine' anyT_take (i := 20) (v := undef) rfl (by as_aux_lemma => kernel_rfl) (by as_aux_lemma => kernel_rfl) (by as_aux_lemma => kernel_rfl) (by as_aux_lemma => kernel_rfl) (fun _ _ _ h => h) (Or.inr ⟨by as_aux_lemma => kernel_rfl, rfl⟩) hS ?_
          (try simp only [Act.put, nY, nX])
          refine' anyT_take (i := 21) (v := undef) rfl (by as_aux_lemma => kernel_rfl) (by as_aux_lemma => kernel_rfl) (by as_aux_lemma => kernel_rfl) (by as_aux_lemma => kernel_rfl) (fun _ _ _ h => h) (Or.inr ⟨by as_aux_lemma => kernel_rfl, rfl⟩) hS ?_
          (try simp only [Act.put, nY, nX])
          refine' anyT_take (i := 22) (v := undef) rfl (by as_aux_lemma => kernel_rfl) (by as_aux_lemma => kernel_rfl) (by as_aux_lemma => kernel_rfl) (by as_aux_lemma => kernel_rfl) (fun _ _ _ h => h) (Or.inr ⟨by as_aux_lemma => kernel_rfl, rfl⟩) hS ?_
          (try simp only [Act.put, nY, nX])
          refine' anyT_take (i := 23) (v := undef) rfl (by as_aux_lemma => kernel_rfl) (by as_aux_lemma => kernel_rfl) (by as_aux_lemma => kernel_rfl) (by as_aux_lemma => kernel_rfl) (fun _ _ _ h => h) (Or.inr ⟨by as_aux_lemma => kernel_rfl, rfl⟩) hS ?_
          (try simp only [Act.put, nY, nX])
          refine' anyT_take (i := 24) (v := undef) rfl (by as_aux_lemma => kernel_rfl) (by as_aux_lemma => kernel_rfl) (by as_aux_lemma => kernel_rfl) (by as_aux_lemma => kernel_rfl) (fun _ _ _ h => h) (Or.inr ⟨by as_aux_lemma => kernel_rfl, rfl⟩) hS ?_
          (try simp only [Act.put, nY, nX])
          refine' anyT_take (i := 25) (v := undef) rfl (by as_aux_lemma => kernel_rfl) (by as_aux_lemma => kernel_rfl) (by as_aux_lemma => kernel_rfl) (by as_aux_lemma => kernel_rfl) (fun _ _ _ h => h) (Or.inr ⟨by as_aux_lemma => kernel_rfl, rfl⟩) hS ?_
          (try simp only [Act.put, nY, nX])
          refine' anyT_take (i := 26) (v := undef) rfl (by as_aux_lemma => kernel_rfl) (by as_aux_lemma => kernel_rfl) (by as_aux_lemma => kernel_rfl) (by as_aux_lemma => kernel_rfl) (fun _ _ _ h => h) (Or.inr ⟨by as_aux_lemma => kernel_rfl, rfl⟩) hS ?_
          (try simp only [Act.put, nY, nX])
          refine' anyT_take (i := 27) (v := undef) rfl (by as_aux_lemma => kernel_rfl) (by as_aux_lemma => kernel_rfl) (by as_aux_lemma => kernel_rfl) (by as_aux_lemma => kernel_rfl) (fun _ _ _ h => h) (Or.inr ⟨by as_aux_lemma => kernel_rfl, rfl⟩) hS ?_
          (try simp only [Act.put, nY, nX])
          refine' anyT_take (i := 28) (v := undef) rfl (by as_aux_lemma => kernel_rfl) (by as_aux_lemma => kernel_rfl) (by as_aux_lemma => kernel_rfl) (by as_aux_lemma => kernel_rfl) (fun _ _ _ h => h) (Or.inr ⟨by as_aux_lemma => kernel_rfl, rfl⟩) hS ?_
          (try simp only [Act.put, nY, nX])
          refine' anyT_take (i := 29) (v := undef) rfl (by as_aux_lemma => kernel_rfl) (by as_aux_lemma => kernel_rfl) (by as_aux_lemma => kernel_rfl) (by as_aux_lemma => kernel_rfl) (fun _ _ _ h => h) (Or.inr ⟨by as_aux_lemma => kernel_rfl, rfl⟩) hS ?_
          (try simp only [Act.put, nY, nX])
          refine' anyT_take (i := 30) (v := undef) rfl (by as_aux_lemma => kernel_rfl) (by as_aux_lemma => kernel_rfl) (by as_aux_lemma => kernel_rfl) (by as_aux_lemma => kernel_rfl) (fun _ _ _ h => h) (Or.inr ⟨by as_aux_lemma => kernel_rfl, rfl⟩) hS ?_
          (try simp only [Act.put, nY, nX])
          refine' anyT_take (i := 31) (v := undef) rfl (by as_aux_lemma => kernel_rfl) (by as_aux_lemma => kernel_rfl) (by as_aux_lemma => kernel_rfl) (by as_aux_lemma => kernel_rfl) (fun _ _ _ h => h) (Or.inr ⟨by as_aux_lemma => kernel_rfl, rfl⟩) hS ?_
          (try simp only [Act.put, nY, nX])
          (refine anyT_sp 32 rfl (fun K' hK' => ?_); simp only [nY]; go_simp)
          refine hK' _ _ ⟨.inl (by kernel_rfl), fun _ => anyT_done (by kernel_rfl) ?_ _⟩
          clear hK' K' hS
          go_wp2
          go_roundw
          case rel => exact ⟨j + 1, by go_num, by omega, hBd⟩
          case measure => simp [intOf]; omega
        ·have hj1 : ¬ (j : Int) < (k : Int) := by omega
         go_wp2
         go_roundw
         case rel => exact ⟨k + 1, by go_num, by omega, hB10⟩
         case measure => simp [intOf]; omega
      ·have hk1 : ¬ (k : Int) < (4 : Int) := by omega
       go_wp2
       go_roundw
       case rel => exact ⟨i + 1, by go_num, by omega, hB9⟩
       case measure => simp [intOf]; omega
    ·have hi1 : ¬ (i : Int) < (n4 : Int) := by omega
     go_wp2_with fail
     refine (works29_c _ (HT.out.below hBB8 rr)).mono ?_
     rintro e w9 ⟨rfl, hbw⟩
     go_wp2
     go_ret
     exact ⟨rfl, hBB8.trans (hbw.mono hBB8.size)⟩
  ·obtain ⟨AK, hAK⟩ : ∃ AK, AK = A'.map (·.add (k * 18)) := ⟨_, rfl⟩
   have HDK' : Hid (IsLaws w AK (n' - k) (c' - k) (xs.drop k)) := by have h := HDK.out; rw [if_neg hck, ← hAK] at h; exact h
   clear HDK
   have HDK := HDK'; clear HDK'
   have HBV : Hid (Below w.heap.size w w4) := HB4.out
   go_wp2_with fail
   refine (pDerive_c A1 n1 c1 T A' k c' (xs.take k) w4 (HP14.out) ((HL.out.take hkn).below HB4.out rr) (HT.out.below HB4.out rr)).mono ?_
   rw [HTKe.out, HPA.out]
   rintro e w5 ⟨A5, n5, c5, rfl, hp5, hb5⟩
   have HP5 := hI hp5
   have HB5 := hI (HB4.out.trans (hb5.mono HB4.out.size))
   have HP15 := hI (HP14.out.below hb5 rr)
   have HP45 := hI (HP4.out.below hb5 rr)
   clear hp5 hb5
   go_wp2_with fail
   try rw [← hAK]
   try clear hAK
   refine (pDerive_c A5 n5 c5 _ _ _ _ (xs.drop k) w5 HP5.out (HDK.out.below HB5.out rr) (HT.out.below HB5.out rr)).mono ?_
   rw [HDKe.out, HPB.out]
   rintro e w6 ⟨A6, n6, c6, rfl, hp6, hb6⟩
   have HP6 := hI hp6
   have HB6 := hI (HB5.out.trans (hb6.mono HB5.out.size))
   have HP16 := hI (HP15.out.below hb6 rr)
   have HP46 := hI (HP45.out.below hb6 rr)
   clear hp6 hb6
   go_wp2_with fail
   refine (same29_c A6 A4 n6 n4 c6 c4 _ _ w6 HP6.out HP46.out).mono ?_
   rintro e w7 ⟨rfl, hb7⟩
   rw [decide_eq_true rfl]
   have HB7 := hI (HB6.out.trans (hb7.mono HB6.out.size))
   have HP17 := hI (HP16.out.below hb7 rr)
   have HP47 := hI (HP46.out.below hb7 rr)
   clear hb7
   have hn41 : n4 = n1 := by rw [← HP47.out.len, ← HP17.out.len, List.length_map]
   subst hn41
   have hnn : ((n4 : Int) != (n4 : Int)) = false := by simp
   go_wp2_with fail
   try rw [← hAK]
   try clear hAK
   clear hnn
   go_loopw [17] (fun vi wr => ∃ i : Nat, vi = .int .i64 i ∧ i ≤ n4 ∧ Below w7.heap.size w7 wr) (fun vi _ => n4 - (intOf vi).toNat)
   case atStart => exact ⟨0, rfl, Nat.zero_le _, Below.refl _ _⟩
   case round =>
    obtain ⟨i, rfl, hi, hB8⟩ := hrel
    have hBB8 := HB7.out.trans (hB8.mono HB7.out.size)
    by_cases hlti : i < n4
    ·have hi1 : (i : Int) < (n4 : Int) := by omega
     obtain ⟨b, off, A2', n2', c2', r1, rfl, hbl, hc1, hlk, hfl⟩ := HP17.out.at_ hlti
     obtain ⟨b3, off3, A3', n3', c3', r3, rfl, hbl3, hc3, hlk3, hfl3⟩ := HP47.out.at_ hlti
     rw [List.getElem?_map, hlk] at hlk3
     obtain rfl : r1.map (derF (lawsD xs)) = r3 := by simpa using hlk3
     have hrow := HR4.out r1 (List.mem_of_getElem? hlk)
     have hn2 : n2' = 4 := by rw [← hfl.len]; exact hrow.1
     have hn3 : n3' = 4 := by rw [← hfl3.len, List.length_map]; exact hrow.1
     subst hn2 hn3
     have HF := hI hfl
     have HF3 := hI hfl3
     have HC1 := hI hc1
     have HC3 := hI hc3
     have HRW : Hid (r1.length = 4) := hrow.1
     have d3 := (hB8.cell (p := ⟨b3, off3 + i, none⟩) hbl3).trans hc3
     obtain ⟨wi, hwi⟩ : ∃ wi, wi = wr := ⟨_, rfl⟩
     rw [← hwi] at hB8
     have HWI := hI hwi
     clear hlk hfl hlk3 hfl3 hc1 hc3 hrow hwi
     go_wp2_with fail
     clear d3
     go_loopw [18] (fun vk wr => ∃ k : Nat, vk = .int .i64 k ∧ k ≤ 4 ∧ Below w7.heap.size w7 wr) (fun vk _ => 4 - (intOf vk).toNat)
     case atStart => exact ⟨0, rfl, Nat.zero_le _, by rw [← HWI.out]; exact hB8⟩
     case round =>
      obtain ⟨k, rfl, hk, hB9⟩ := hrel
      by_cases hltk : k < 4
      ·have hk1 : (k : Int) < (4 : Int) := by omega
       obtain ⟨b2, off2, h2, A6', n6', c6', ws2, rfl, hb2, e0, e1, hlr2, hwr2⟩ := HF.out.at_ hltk
       obtain ⟨b5, off5, h5, A7', n7', c7', ws5, rfl, hb5, g0, g1, hlr5, hwr5⟩ := HF3.out.at_ hltk
       rw [List.getElem?_map, hlr2] at hlr5
       obtain ⟨rfl, rfl⟩ : h2 = h5 ∧ (derF (lawsD xs) (h2, ws2)).2 = ws5 := by
        have h := Option.some.inj hlr5
        exact ⟨congrArg Prod.fst h, congrArg Prod.snd h⟩
       have d1 := (hB9.cell (p := ⟨b, off + i, none⟩) hbl).trans HC1.out
       have d3 := (hB9.cell (p := ⟨b3, off3 + i, none⟩) hbl3).trans HC3.out
       have f0 := (hB9.cell (p := ⟨b2, off2 + k * 2, none⟩) hb2).trans e0
       have f1 := (hB9.cell (p := ⟨b5, off5 + k * 2, none⟩) hb5).trans g0
       have HE1 := hI e1
       have HG1 := hI g1
       have HE0 := hI e0
       have HG0 := hI g0
       have HWK := hI hwr2
       have HWK5 := hI hwr5
       have HLK2 := hI hlr2
       have hne : (h2 != h2) = false := by simp
       clear e0 e1 g0 g1 hlr2 hlr5 hwr2 hwr5
       go_wp2_with fail
       go_quiet (fail)
       clear d1 d3 f0 f1 hne
       go_wp2_with fail
       go_loopw [19] (fun vj wr => ∃ j : Nat, vj = .int .i64 j ∧ j ≤ k ∧ Below w7.heap.size w7 wr) (fun vj _ => k - (intOf vj).toNat)
       case atStart => exact ⟨0, rfl, Nat.zero_le _, hB9.drewN _⟩
       case round =>
        obtain ⟨j, rfl, hj, hB10⟩ := hrel
        have hB10s := hB10.size
        by_cases hltj : j < k
        ·have hj1 : (j : Int) < (k : Int) := by omega
         have hj4 : (j : Int) < (4 : Int) := by omega
         obtain ⟨b2', off2', h6, A8', n8', c8', ws6, hA2, _, p0, p1, hlr6, hwr6⟩ := HF.out.at_ (k := j) (by omega)
         obtain ⟨b5', off5', h7, A9', n9', c9', ws7, hA5, _, q0, q1, hlr7, hwr7⟩ := HF3.out.at_ (k := j) (by omega)
         obtain ⟨rfl, rfl⟩ : b2 = b2' ∧ off2 = off2' := by simpa using hA2
         obtain ⟨rfl, rfl⟩ : b5 = b5' ∧ off5 = off5' := by simpa using hA5
         rw [List.getElem?_map, hlr6] at hlr7
         obtain ⟨rfl, rfl⟩ : h6 = h7 ∧ (derF (lawsD xs) (h6, ws6)).2 = ws7 := by
          have h := Option.some.inj hlr7
          exact ⟨congrArg Prod.fst h, congrArg Prod.snd h⟩
         have HSB : Hid (∀ W : World, Below w7.heap.size w7 W → W.cell? ⟨b, off + i, none⟩ = some (.slice (some ⟨b2, off2, none⟩) 4 c2') ∧ W.cell? ⟨b2, off2 + j * 2, none⟩ = some (.bool h6) ∧ W.cell? ⟨b2, off2 + j * 2 + 1, none⟩ = some (.slice A8' n8' c8') ∧ W.cell? ⟨b2, off2 + k * 2, none⟩ = some (.bool h2) ∧ W.cell? ⟨b2, off2 + k * 2 + 1, none⟩ = some (.slice A6' n6' c6') ∧ W.cell? ⟨b3, off3 + i, none⟩ = some (.slice (some ⟨b5, off5, none⟩) 4 c3') ∧ W.cell? ⟨b5, off5 + j * 2, none⟩ = some (.bool h6) ∧ W.cell? ⟨b5, off5 + j * 2 + 1, none⟩ = some (.slice A9' n9' c9') ∧ W.cell? ⟨b5, off5 + k * 2, none⟩ = some (.bool h2) ∧ W.cell? ⟨b5, off5 + k * 2 + 1, none⟩ = some (.slice A7' n7' c7')) := fun W hb => ⟨(hb.cell (p := ⟨b, off + i, none⟩) hbl).trans HC1.out, (hb.cell (p := ⟨b2, off2 + j * 2, none⟩) hb2).trans p0, (hb.cell (p := ⟨b2, off2 + j * 2 + 1, none⟩) hb2).trans p1, (hb.cell (p := ⟨b2, off2 + k * 2, none⟩) hb2).trans HE0.out, (hb.cell (p := ⟨b2, off2 + k * 2 + 1, none⟩) hb2).trans HE1.out, (hb.cell (p := ⟨b3, off3 + i, none⟩) hbl3).trans HC3.out, (hb.cell (p := ⟨b5, off5 + j * 2, none⟩) hb5).trans q0, (hb.cell (p := ⟨b5, off5 + j * 2 + 1, none⟩) hb5).trans q1, (hb.cell (p := ⟨b5, off5 + k * 2, none⟩) hb5).trans HG0.out, (hb.cell (p := ⟨b5, off5 + k * 2 + 1, none⟩) hb5).trans HG1.out⟩
         have HWJ := hI hwr6
         have HWJ5 := hI hwr7
         clear hA2 hA5 p0 p1 q0 q1 hlr6 hlr7 hwr6 hwr7
         have hS := HSB.out _ hB10
         go_wp2_with fail
         refine plain_region (fun W' => W'.cell? ⟨b, off + i, none⟩ = some (.slice (some ⟨b2, off2, none⟩) 4 c2') ∧ W'.cell? ⟨b2, off2 + j * 2, none⟩ = some (.bool h6) ∧ W'.cell? ⟨b2, off2 + j * 2 + 1, none⟩ = some (.slice A8' n8' c8') ∧ W'.cell? ⟨b2, off2 + k * 2, none⟩ = some (.bool h2) ∧ W'.cell? ⟨b2, off2 + k * 2 + 1, none⟩ = some (.slice A6' n6' c6') ∧ W'.cell? ⟨b3, off3 + i, none⟩ = some (.slice (some ⟨b5, off5, none⟩) 4 c3') ∧ W'.cell? ⟨b5, off5 + j * 2, none⟩ = some (.bool h6) ∧ W'.cell? ⟨b5, off5 + j * 2 + 1, none⟩ = some (.slice A9' n9' c9') ∧ W'.cell? ⟨b5, off5 + k * 2, none⟩ = some (.bool h2) ∧ W'.cell? ⟨b5, off5 + k * 2 + 1, none⟩ = some (.slice A7' n7' c7')) (by kernel_rfl) hS (fun hHeld => ?_)
         (refine' anyT_tk 0 rfl ?_; (try simp only [Act.put, nY, nX])); (refine' anyT_tk 1 rfl ?_; (try simp only [Act.put, nY, nX])); (refine' anyT_tk 2 rfl ?_; (try simp only [Act.put, nY, nX])); (refine' anyT_tk 3 rfl ?_; (try simp only [Act.put, nY, nX])); (refine' anyT_tk 4 rfl ?_; (try simp only [Act.put, nY, nX])); (refine' anyT_tk 5 rfl ?_; (try simp only [Act.put, nY, nX])); (refine' anyT_tk 6 rfl ?_; (try simp only [Act.put, nY, nX])); (refine' anyT_tk 7 rfl ?_; (try simp only [Act.put, nY, nX])); (refine' anyT_tk 8 rfl ?_; (try simp only [Act.put, nY, nX])); (refine' anyT_tk 9 rfl ?_; (try simp only [Act.put, nY, nX])); (refine' anyT_tk 10 rfl ?_; (try simp only [Act.put, nY, nX])); (refine' anyT_tk 11 rfl ?_; (try simp only [Act.put, nY, nX])); (refine' anyT_tk 12 rfl ?_; (try simp only [Act.put, nY, nX])); (refine' anyT_tk 13 rfl ?_; (try simp only [Act.put, nY, nX]))
         clear hHeld hS
         (refine anyT_sp 14 rfl (fun K' hK' => ?_); simp only [nY]; go_simp)
         have hbd : Below w7.heap.size w7 wr.drew := hB10.drew
         have hbsz : w7.heap.size ≤ wr.drew.heap.size := hbd.size
         refine (r29Equal_c ⟨h6, (A8', n8', c8', ws6)⟩ ⟨h2, (A6', n6', c6', ws2)⟩ wr.drew (HWJ.out.below hbd rr) (HWK.out.below hbd rr)).mono ?_
         rintro e wd ⟨rfl, hbe⟩
         have hBd := hbd.trans (hbe.mono hbsz)
         have hS := HSB.out _ hBd
         by_cases heq : ((h6, ws6) : Frm) = (h2, ws2)
         ·obtain ⟨rfl, rfl⟩ : h6 = h2 ∧ ws6 = ws2 := ⟨congrArg Prod.fst heq, congrArg Prod.snd heq⟩
          rw [show decide (FormR.data ⟨h6, (A8', n8', c8', ws6)⟩ = FormR.data ⟨h6, (A6', n6', c6', ws6)⟩) = true from decide_eq_true rfl]
          refine hK' _ _ ⟨.inr hS, fun _ => ?_⟩
          clear hK' K' hbd hbe hbsz heq
          (try simp only [Act.put, nY, nX])
          (refine' anyT_tk 15 rfl ?_; (try simp only [Act.put, nY, nX])); (refine' anyT_tk 16 rfl ?_; (try simp only [Act.put, nY, nX])); (refine' anyT_tk 17 rfl ?_; (try simp only [Act.put, nY, nX])); (refine' anyT_tk 18 rfl ?_; (try simp only [Act.put, nY, nX])); (refine' anyT_tk 19 rfl ?_; (try simp only [Act.put, nY, nX])); (refine' anyT_tk 20 rfl ?_; (try simp only [Act.put, nY, nX])); (refine' anyT_tk 21 rfl ?_; (try simp only [Act.put, nY, nX])); (refine' anyT_tk 22 rfl ?_; (try simp only [Act.put, nY, nX])); (refine' anyT_tk 23 rfl ?_; (try simp only [Act.put, nY, nX])); (refine' anyT_tk 24 rfl ?_; (try simp only [Act.put, nY, nX])); (refine' anyT_tk 25 rfl ?_; (try simp only [Act.put, nY, nX])); (refine' anyT_tk 26 rfl ?_; (try simp only [Act.put, nY, nX])); (refine' anyT_tk 27 rfl ?_; (try simp only [Act.put, nY, nX])); (refine' anyT_tk 28 rfl ?_; (try simp only [Act.put, nY, nX])); (refine' anyT_tk 29 rfl ?_; (try simp only [Act.put, nY, nX]))
          clear hS
          (refine anyT_sp 30 rfl (fun K' hK' => ?_); simp only [nY]; go_simp)
          refine (r29Equal_c ⟨h6, (A9', n9', c9', (derF (lawsD xs) (h6, ws6)).2)⟩ ⟨h6, (A7', n7', c7', (derF (lawsD xs) (h6, ws6)).2)⟩ wd (HWJ5.out.below hBd rr) (HWK5.out.below hBd rr)).mono ?_
          rintro e we ⟨rfl, hbe⟩
          have hBe := hBd.trans (hbe.mono hBd.size)
          have hS := HSB.out _ hBe
          rw [show decide (FormR.data ⟨h6, (A9', n9', c9', (derF (lawsD xs) (h6, ws6)).2)⟩ = FormR.data ⟨h6, (A7', n7', c7', (derF (lawsD xs) (h6, ws6)).2)⟩) = true from decide_eq_true rfl]
          refine hK' _ _ ⟨.inr hS, fun _ => ?_⟩
          clear hK' K' hbe
          (try simp only [Act.put, nY, nX])
          (refine' anyT_tk 31 rfl ?_; (try simp only [Act.put, nY, nX]))
          (refine anyT_sp 32 rfl (fun K' hK' => ?_); simp only [nY]; go_simp)
          refine hK' _ _ ⟨.inl (by kernel_rfl), fun _ => anyT_done (by kernel_rfl) ?_ _⟩
          clear hK' K' hS
          go_wp2
          go_roundw
          case rel => exact ⟨j + 1, by go_num, by omega, hBe⟩
          case measure => simp [intOf]; omega
         ·rw [show decide (FormR.data ⟨h6, (A8', n8', c8', ws6)⟩ = FormR.data ⟨h2, (A6', n6', c6', ws2)⟩) = false from decide_eq_false heq]
          refine hK' _ _ ⟨.inr hS, fun _ => ?_⟩
          clear hK' K' hbd hbe hbsz heq
          (try simp only [Act.put, nY, nX])
          (refine' anyT_tk 15 rfl ?_; (try simp only [Act.put, nY, nX]))
          refine' anyT_take (i := 16) (v := undef) rfl (by as_aux_lemma => kernel_rfl) (by as_aux_lemma => kernel_rfl) (by as_aux_lemma => kernel_rfl) (by as_aux_lemma => kernel_rfl) (fun _ _ _ h => h) (Or.inr ⟨by as_aux_lemma => kernel_rfl, rfl⟩) hS ?_
          (try simp only [Act.put, nY, nX])
          refine' anyT_take (i := 17) (v := undef) rfl (by as_aux_lemma => kernel_rfl) (by as_aux_lemma => kernel_rfl) (by as_aux_lemma => kernel_rfl) (by as_aux_lemma => kernel_rfl) (fun _ _ _ h => h) (Or.inr ⟨by as_aux_lemma => kernel_rfl, rfl⟩) hS ?_
          (try simp only [Act.put, nY, nX])
          refine' anyT_take (i := 18) (v := undef) rfl (by as_aux_lemma => kernel_rfl) (by as_aux_lemma => kernel_rfl) (by as_aux_lemma => kernel_rfl) (by as_aux_lemma => kernel_rfl) (fun _ _ _ h => h) (Or.inr ⟨by as_aux_lemma => kernel_rfl, rfl⟩) hS ?_
          (try simp only [Act.put, nY, nX])
          refine' anyT_take (i := 19) (v := undef) rfl (by as_aux_lemma => kernel_rfl) (by as_aux_lemma => kernel_rfl) (by as_aux_lemma => kernel_rfl) (by as_aux_lemma => kernel_rfl) (fun _ _ _ h => h) (Or.inr ⟨by as_aux_lemma => kernel_rfl, rfl⟩) hS ?_
          (try simp only [Act.put, nY, nX])
          refine' anyT_take (i := 20) (v := undef) rfl (by as_aux_lemma => kernel_rfl) (by as_aux_lemma => kernel_rfl) (by as_aux_lemma => kernel_rfl) (by as_aux_lemma => kernel_rfl) (fun _ _ _ h => h) (Or.inr ⟨by as_aux_lemma => kernel_rfl, rfl⟩) hS ?_
          (try simp only [Act.put, nY, nX])
          refine' anyT_take (i := 21) (v := undef) rfl (by as_aux_lemma => kernel_rfl) (by as_aux_lemma => kernel_rfl) (by as_aux_lemma => kernel_rfl) (by as_aux_lemma => kernel_rfl) (fun _ _ _ h => h) (Or.inr ⟨by as_aux_lemma => kernel_rfl, rfl⟩) hS ?_
          (try simp only [Act.put, nY, nX])
          refine' anyT_take (i := 22) (v := undef) rfl (by as_aux_lemma => kernel_rfl) (by as_aux_lemma => kernel_rfl) (by as_aux_lemma => kernel_rfl) (by as_aux_lemma => kernel_rfl) (fun _ _ _ h => h) (Or.inr ⟨by as_aux_lemma => kernel_rfl, rfl⟩) hS ?_
          (try simp only [Act.put, nY, nX])
          refine' anyT_take (i := 23) (v := undef) rfl (by as_aux_lemma => kernel_rfl) (by as_aux_lemma => kernel_rfl) (by as_aux_lemma => kernel_rfl) (by as_aux_lemma => kernel_rfl) (fun _ _ _ h => h) (Or.inr ⟨by as_aux_lemma => kernel_rfl, rfl⟩) hS ?_
          (try simp only [Act.put, nY, nX])
          refine' anyT_take (i := 24) (v := undef) rfl (by as_aux_lemma => kernel_rfl) (by as_aux_lemma => kernel_rfl) (by as_aux_lemma => kernel_rfl) (by as_aux_lemma => kernel_rfl) (fun _ _ _ h => h) (Or.inr ⟨by as_aux_lemma => kernel_rfl, rfl⟩) hS ?_
          (try simp only [Act.put, nY, nX])
          refine' anyT_take (i := 25) (v := undef) rfl (by as_aux_lemma => kernel_rfl) (by as_aux_lemma => kernel_rfl) (by as_aux_lemma => kernel_rfl) (by as_aux_lemma => kernel_rfl) (fun _ _ _ h => h) (Or.inr ⟨by as_aux_lemma => kernel_rfl, rfl⟩) hS ?_
          (try simp only [Act.put, nY, nX])
          refine' anyT_take (i := 26) (v := undef) rfl (by as_aux_lemma => kernel_rfl) (by as_aux_lemma => kernel_rfl) (by as_aux_lemma => kernel_rfl) (by as_aux_lemma => kernel_rfl) (fun _ _ _ h => h) (Or.inr ⟨by as_aux_lemma => kernel_rfl, rfl⟩) hS ?_
          (try simp only [Act.put, nY, nX])
          refine' anyT_take (i := 27) (v := undef) rfl (by as_aux_lemma => kernel_rfl) (by as_aux_lemma => kernel_rfl) (by as_aux_lemma => kernel_rfl) (by as_aux_lemma => kernel_rfl) (fun _ _ _ h => h) (Or.inr ⟨by as_aux_lemma => kernel_rfl, rfl⟩) hS ?_
          (try simp only [Act.put, nY, nX])
          refine' anyT_take (i := 28) (v := undef) rfl (by as_aux_lemma => kernel_rfl) (by as_aux_lemma => kernel_rfl) (by as_aux_lemma => kernel_rfl) (by as_aux_lemma => kernel_rfl) (fun _ _ _ h => h) (Or.inr ⟨by as_aux_lemma => kernel_rfl, rfl⟩) hS ?_
          (try simp only [Act.put, nY, nX])
          refine' anyT_take (i := 29) (v := undef) rfl (by as_aux_lemma => kernel_rfl) (by as_aux_lemma => kernel_rfl) (by as_aux_lemma => kernel_rfl) (by as_aux_lemma => kernel_rfl) (fun _ _ _ h => h) (Or.inr ⟨by as_aux_lemma => kernel_rfl, rfl⟩) hS ?_
          (try simp only [Act.put, nY, nX])
          refine' anyT_take (i := 30) (v := undef) rfl (by as_aux_lemma => kernel_rfl) (by as_aux_lemma => kernel_rfl) (by as_aux_lemma => kernel_rfl) (by as_aux_lemma => kernel_rfl) (fun _ _ _ h => h) (Or.inr ⟨by as_aux_lemma => kernel_rfl, rfl⟩) hS ?_
          (try simp only [Act.put, nY, nX])
          refine' anyT_take (i := 31) (v := undef) rfl (by as_aux_lemma => kernel_rfl) (by as_aux_lemma => kernel_rfl) (by as_aux_lemma => kernel_rfl) (by as_aux_lemma => kernel_rfl) (fun _ _ _ h => h) (Or.inr ⟨by as_aux_lemma => kernel_rfl, rfl⟩) hS ?_
          (try simp only [Act.put, nY, nX])
          (refine anyT_sp 32 rfl (fun K' hK' => ?_); simp only [nY]; go_simp)
          refine hK' _ _ ⟨.inl (by kernel_rfl), fun _ => anyT_done (by kernel_rfl) ?_ _⟩
          clear hK' K' hS
          go_wp2
          go_roundw
          case rel => exact ⟨j + 1, by go_num, by omega, hBd⟩
          case measure => simp [intOf]; omega
        ·have hj1 : ¬ (j : Int) < (k : Int) := by omega
         go_wp2
         go_roundw
         case rel => exact ⟨k + 1, by go_num, by omega, hB10⟩
         case measure => simp [intOf]; omega
      ·have hk1 : ¬ (k : Int) < (4 : Int) := by omega
       go_wp2
       go_roundw
       case rel => exact ⟨i + 1, by go_num, by omega, hB9⟩
       case measure => simp [intOf]; omega
    ·have hi1 : ¬ (i : Int) < (n4 : Int) := by omega
     go_wp2_with fail
     refine (works29_c _ (HT.out.below hBB8 rr)).mono ?_
     rintro e w9 ⟨rfl, hbw⟩
     go_wp2
     go_ret
     exact ⟨rfl, hBB8.trans (hbw.mono hBB8.size)⟩
end Go.Proofs.YtcpcojgmmpnkoaaGreatDoor

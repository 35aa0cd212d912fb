/-
  ablautlaw11.InverseNothing is true.
-/
import Derived.Test.YtlgliddhideflaaGreatDoorH08
set_option linter.all false
set_option maxRecDepth 100000
set_option maxHeartbeats 4000000
namespace Go.Proofs.YtlgliddhideflaaGreatDoor
open Go.RowKit Go.Shelf
theorem IsLaws.none (w : World) : IsLaws w none 0 0 [] := ⟨⟨Cells.nil _ _, rfl⟩, fun x hx => by simp at hx⟩
theorem nothing0_c (p : Nat) (hp : p ≤ 255) (Al : Option Addr) (nl cl : Nat) (l : List Nat) (q : Nat) (hq : q ≤ 255) (w : World) (hl : IsBytes w Al nl cl l) (hT : TabOK w) (hng : p % 6 = 5 → ∀ x, l[0]? = some x → x % 8 = 0) :
  Calls Tryz.prog 12 #[.int .u8 p, .slice Al nl cl, .int .u8 q] w (RetTrue w) := by
 have HL := hI hl; have HT := hI hT; clear hl hT
 obtain ⟨k, hk⟩ : ∃ k, k = p % 6 := ⟨_, rfl⟩
 rw [← hk] at hng
 have HNG := hI hng; clear hng
 have hk5 : k ≤ 5 := by omega
 have hmod : ((p : Int) % 6) = (k : Int) := by omega
 have htm : Int.tmod (p : Int) 6 = (k : Int) := by rw [Int.tmod_eq_emod_of_nonneg (by omega)]; exact hmod
 obtain ⟨n2, hn2⟩ : ∃ n2, n2 = q % 5 := ⟨_, rfl⟩
 have hn4 : n2 ≤ 4 := by omega
 have hmod2 : ((q : Int) % 5) = (n2 : Int) := by omega
 have htm2 : Int.tmod (q : Int) 5 = (n2 : Int) := by rw [Int.tmod_eq_emod_of_nonneg (by omega)]; exact hmod2
 clear hk hn2
 have HPW : Hid (∀ m, m ≤ 4 → k ^ m ≤ 625) := fun m hm => by
  have h1 : k ^ m ≤ 5 ^ m := Nat.pow_le_pow_left hk5 m
  have h2 : 5 ^ m ≤ 5 ^ 4 := Nat.pow_le_pow_right (by decide) hm
  omega
 have HRF : Hid (refusedM (alpha5.take k) = 0) := alpha5_ok k hk5
 have HAL : Hid ((alphaM (alpha5.take k)).length = k) := by show _ = _; rw [alpha_len (alpha5_nodup hk5), alpha5_len hk5]
 have HAU : Hid (WordU (alpha5.take k)) := fun s hs => by
  have hs' := List.mem_of_mem_take hs
  simp [alpha5] at hs'
  rcases hs' with rfl | rfl | rfl | rfl | rfl <;> exact ⟨⟨by decide, by decide⟩, ⟨by decide, by decide⟩⟩
 have HSH : Hid (shortM [] (alpha5.take k) n2 = 0) := by
  show _ = _
  unfold shortM
  rw [if_neg (by simpa using wrong_zero (ls := []) (w := []) (by rfl) (by rfl) HRF.out), if_neg (by omega)]
 have HIM : Hid (imageM (lawsD []) (alpha5.take k) n2 = (0, wordsM (alphaM (alpha5.take k)) n2)) := by
  show imageM [] _ _ = _
  unfold imageM
  rw [HSH.out, if_neg (by simp), Int.toNat_natCast, (image_none (alpha5_valid hk5) (by omega)).1]
 have HLO : Hid (lostM (lawsD []) (alpha5.take k) n2 = (0, [])) := by
  show lostM [] _ _ = _
  unfold lostM
  rw [HSH.out, if_neg (by simp), Int.toNat_natCast, (image_none (alpha5_valid hk5) (by omega)).2]
 go_enter Tryz.func12, Tryz.ntmps12
 go_wp2_with fail
 refine (alphabet_c k hk5 w).mono ?_
 rintro e w1 ⟨rfl, hown1, hB1⟩
 have HS1 : Hid (IsWord w1 (some ⟨w.heap.size, 0, none⟩) k 5 (alpha5.take k)) := Cells.of_own hown1 (by decide)
 clear hown1
 obtain ⟨bs, hbs⟩ : ∃ bs, bs = w.heap.size := ⟨_, rfl⟩
 rw [← hbs] at HS1 ⊢
 clear hbs
 go_wp2_with fail
 refine (alphabet_c 5 (by omega) w1).mono ?_
 rintro e w2 ⟨rfl, hown2, hb2⟩
 have hB2 := hB1.trans (hb2.mono hB1.size)
 have HF2 : Hid (IsWord w2 (some ⟨w1.heap.size, 0, none⟩) 5 5 (alpha5.take 5)) := Cells.of_own hown2 (by decide)
 have HS2 := hI (HS1.out.below hb2 rr)
 clear hown2 hb2 HS1
 obtain ⟨bf, hbf⟩ : ∃ bf, bf = w1.heap.size := ⟨_, rfl⟩
 rw [← hbf] at HF2 ⊢
 clear hbf
 go_wp2_with fail
 refine (spelt_c _ 5 5 _ Al nl cl l 10 w2 HF2.out (HL.out.below hB2 rr) (by omega) (by omega)).mono ?_
 obtain ⟨v, hv⟩ : ∃ v, v = speltM (alpha5.take 5) l 10 := ⟨_, rfl⟩
 rw [← hv]
 have HV10 : Hid (v.length ≤ 10) := by show _ ≤ _; rw [hv]; exact spelt_len _ _ _
 have HVC : Hid (wcheck v = 0) := by
  refine wcheck_alpha (alpha5_valid (n := 5) (by omega)) (ss := alpha5.take 5) ?_ (by have := HV10.out; omega)
  rw [hv]; exact spelt_mem _ _ _
 clear hv HF2
 rintro e w3 ⟨Av, nv, cv, rfl, hwv, hb3, _⟩
 have hB3 := hB2.trans (hb3.mono hB2.size)
 have hnv : nv ≤ 32 := word_short hwv HVC.out
 have HVL : Hid (v.length = nv) := hwv.len
 have HV3 := hI hwv
 have HS3 := hI (HS2.out.below hb3 rr)
 have hB3s := hB3.size
 have HB3 := hI hB3
 clear hb3 hwv HS2 hB3 hB2 hB1
 go_wp2_with fail
 go_loopw [10, 35] (fun v10 v35 wr => ∃ (j : Nat) (ib : Bool), v35 = .int .i64 j ∧ v10 = .bool ib ∧ j ≤ nv ∧ Hid (ib = (decide (nv ≤ 6) && (v.take j).all fun s => decide (s ∈ alpha5.take k))) ∧ Below w3.heap.size w3 wr) (fun _ v35 _ => nv - (intOf v35).toNat)
 case atStart => exact ⟨0, _, rfl, rfl, Nat.zero_le _, (by simp [Hid]; try omega), Below.refl _ _⟩
 case round =>
  obtain ⟨j, ib, rfl, rfl, hj, hib, hB⟩ := hrel
  have hBs := hB.size
  by_cases hlt : j < nv
  ·have hlt' : (j : Int) < (nv : Int) := by omega
   obtain ⟨b3, off3, p1, m1, rfl, hb3, hsi, hc0, hc1⟩ := (HV3.out.below hB rr).at_ hlt
   have HSI := hI hsi; clear hsi
   have hba : Below wr.heap.size wr (wr.alloc (.cells #[.int .u32 p1, .int .u32 m1] 24)) := (Below.refl _ _).alloc rr _
   have HBa := hI (hB.trans (hba.mono hBs))
   clear hba
   cases ib with
   | false =>
    have HN : Hid (false = (decide (nv ≤ 6) && (v.take (j + 1)).all fun s => decide (s ∈ alpha5.take k))) := by
     show _ = _
     rw [take_snoc' v j _ HSI.out, List.all_append, ← Bool.and_assoc, ← hib.out]; rfl
    go_wp2
    go_roundw
    case rel => exact ⟨j + 1, false, by go_num, rfl, by omega, HN, HBa.out⟩
    case measure => simp [intOf]; omega
   | true =>
    go_wp2_with fail
    refine (hasSnd_c _ k 5 (alpha5.take k) p1 m1 _ (HS3.out.below HBa.out rr)).mono ?_
    obtain ⟨d, hd⟩ : ∃ d, d = decide ((p1, m1) ∈ alpha5.take k) := ⟨_, rfl⟩
    rw [← hd]
    have HN : Hid (d = (decide (nv ≤ 6) && (v.take (j + 1)).all fun s => decide (s ∈ alpha5.take k))) := by
     show _ = _
     rw [take_snoc' v j _ HSI.out, List.all_append, ← Bool.and_assoc, ← hib.out, hd]; simp
    clear hd
    rintro e w9 ⟨rfl, hb9⟩
    have hB9 := HBa.out.trans (hb9.mono HBa.out.size)
    clear hb9 HBa
    go_wp2
    go_roundw
    case rel => exact ⟨j + 1, d, by go_num, rfl, by omega, HN, hB9⟩
    case measure => simp [intOf]; omega
  ·obtain rfl : nv = j := by omega
   have HIB : Hid (ib = true ↔ (v.length ≤ 6 ∧ ∀ s ∈ v, s ∈ alpha5.take k)) := by
    show _ ↔ _
    rw [hib.out, List.take_of_length_le (by rw [HVL.out]; exact rr), HVL.out]
    simp [List.all_eq_true]
   have HBW : Hid (Below w.heap.size w wr) := HB3.out.trans (hB.mono hB3s)
   have HVR := hI (HV3.out.below hB rr)
   have HSR := hI (HS3.out.below hB rr)
   clear hib hlt hj hB hBs
   have HBE : Hid (beforeM (lawsD []) v (alpha5.take k) = if ib = true then [v] else []) := by
    show beforeM [] _ _ = _
    rw [before_none (alpha5_valid hk5)]
    by_cases h : ib = true
    ·rw [if_pos h, if_pos (HIB.out.1 h)]
    ·rw [if_neg h, if_neg (fun h2 => h (HIB.out.2 h2))]
   have HWZ : Hid (wrongM (lawsD []) v (alpha5.take k) = 0) := wrong_zero (ls := []) (by rfl) HVC.out HRF.out
   obtain ⟨LL, hLL⟩ : ∃ LL, LL = if ib = true then [v] else [] := ⟨_, rfl⟩
   obtain ⟨cn, hcn⟩ : ∃ cn : Int, cn = if ib = true then 1 else 0 := ⟨_, rfl⟩
   have HBM : Hid (backM (lawsD []) v (alpha5.take k) 9 = (0, LL)) := by
    show _ = _
    unfold backM
    rw [if_neg (by simpa using HWZ.out), if_neg (by decide), HBE.out, hLL]
    cases ib <;> rfl
   have HCM : Hid (countM (lawsD []) v (alpha5.take k) = (0, cn)) := by
    show _ = _
    unfold countM
    rw [if_neg (by simpa using HWZ.out), HBE.out, hcn]
    cases ib <;> rfl
   have HRM : Hid (reachM (lawsD []) v (alpha5.take k) = (0, ib)) := by
    show _ = _
    unfold reachM
    rw [if_neg (by simpa using HWZ.out), HBE.out]
    cases ib <;> rfl
   have HLL := hI hLL; have HCN := hI hcn
   clear HIB HBE hLL hcn
   by_cases hk6 : k = 5
   ·have hk7 : ((k : Int) == 5) = true := by simp; omega
    have HK6 := hI hk6
    clear hk6
    by_cases hnl : nl = 0
    ·subst hnl
     go_wp2_with fail
     refine (backAll_c none 0 0 [] Av nv cv v _ k 5 (alpha5.take k) 9 wr (IsLaws.none _) HVR.out HSR.out (HT.out.below HBW.out rr) (by omega)).mono ?_
     rw [HBM.out]
     rintro e w4 ⟨A4, n4, c4, rfl, hw4, hb4⟩
     have hB4 := HBW.out.trans (hb4.mono HBW.out.size)
     have HVR4 := hI (HVR.out.below hb4 rr)
     have HSR4 := hI (HSR.out.below hb4 rr)
     have HO4 := hI hw4
     clear hb4 hw4 HVR HSR
     go_wp2_with fail
     refine (invCount_c none 0 0 [] Av nv cv v _ k 5 (alpha5.take k) w4 (IsLaws.none _) HVR4.out HSR4.out (HT.out.below hB4 rr) (by omega)).mono ?_
     rw [HCM.out]
     rintro e w5 ⟨rfl, hb5⟩
     have hB5 := hB4.trans (hb5.mono hB4.size)
     have HVR5 := hI (HVR4.out.below hb5 rr)
     have HSR5 := hI (HSR4.out.below hb5 rr)
     have HO5 := hI (HO4.out.below hb5 rr)
     clear hb5 HVR4 HSR4 HO4
     go_wp2_with fail
     refine (reached_c none 0 0 [] Av nv cv v _ k 5 (alpha5.take k) w5 (IsLaws.none _) HVR5.out HSR5.out (HT.out.below hB5 rr) (by omega)).mono ?_
     rw [HRM.out]
     rintro e w6 ⟨rfl, hb6⟩
     have hB6 := hB5.trans (hb6.mono hB5.size)
     have HVR6 := hI (HVR5.out.below hb6 rr)
     have HSR6 := hI (HSR5.out.below hb6 rr)
     have HO6 := hI (HO5.out.below hb6 rr)
     clear hb6 HVR5 HSR5 HO5 HBM HCM HRM HWZ
     cases ib with
     | false =>
      obtain rfl : LL = [] := HLL.out
      obtain rfl : cn = 0 := HCN.out
      obtain rfl : 0 = n4 := HO6.out.len
      go_wp2_with fail
      go_loopw [19, 131] (fun v19 v131 wr => ∃ j t : Nat, v131 = .int .u8 j ∧ v19 = .int .i64 t ∧ j ≤ n2 ∧ Hid (t = k ^ j) ∧ Below w6.heap.size w6 wr) (fun _ v131 _ => n2 - (intOf v131).toNat)
      case atStart => exact ⟨0, 1, rfl, rfl, Nat.zero_le _, by simp [Hid], Below.refl _ _⟩
      case round =>
       obtain ⟨j, t, rfl, rfl, hj, ht, hB⟩ := hrel
       by_cases hlt : j < n2
       ·have hlt' : (j : Int) < (n2 : Int) := by omega
        obtain ⟨t2, ht2⟩ : ∃ t2, t2 = k ^ (j + 1) := ⟨_, rfl⟩
        have ht6 : t2 ≤ 625 := by rw [ht2]; exact HPW.out (j + 1) (by omega)
        have hmul : IntKind.i64.wrap ((t : Int) * (k : Int)) = (t2 : Int) := by
         have e : t2 = t * k := by rw [ht2, ht.out, Nat.pow_succ]
         have e2 : (t : Int) * (k : Int) = (t2 : Int) := by rw [e]; exact (Int.natCast_mul t k).symm
         rw [e2]; exact IntWalk.i64_in _ (by omega)
        have HT2 : Hid (t2 = k ^ (j + 1)) := ht2
        obtain ⟨j2, hj2⟩ : ∃ j2, j2 = j + 1 := ⟨_, rfl⟩
        have hu8 : IntKind.u8.wrap ((j : Int) + 1) = (j2 : Int) := by
         rw [hj2]; unfold IntKind.wrap; simp [IntKind.min, IntKind.max, IntKind.signed, IntKind.bits]; omega
        rw [← hj2] at HT2
        have hj2n : j2 ≤ n2 := by omega
        have hj2j : j < j2 := by omega
        clear ht2 hj2
        go_wp2
        go_roundw
        case rel => exact ⟨j2, t2, rfl, rfl, hj2n, HT2, hB⟩
        case measure => simp [intOf]; omega
       ·obtain rfl : n2 = j := by omega
        have hBA := Below.trans hB6 (hB.mono (Below.size hB6))
        have HSA := hI (HSR6.out.below hB rr)
        clear hB hlt hj
        go_wp2_with fail
        refine (image_c none 0 0 [] _ k 5 (alpha5.take k) n2 _ (IsLaws.none _) HSA.out (HT.out.below hBA rr)).mono ?_
        rw [HIM.out]
        rintro e wi ⟨Ai, ni, ci, rfl, hwi, hbi⟩
        have hBI := hBA.trans (hbi.mono hBA.size)
        have hni : ni = t := by rw [← hwi.len, words_len, HAL.out, ht.out]
        subst hni
        have HSI := hI (HSA.out.below hbi rr)
        clear hbi hwi HSA hBA
        go_wp2_with fail
        refine (lost_c none 0 0 [] _ k 5 (alpha5.take k) n2 wi (IsLaws.none _) HSI.out (HT.out.below hBI rr) HAU.out).mono ?_
        rw [HLO.out]
        rintro e wj ⟨Aj, nj, cj, qs, rfl, hq, hpj, hbj⟩
        obtain rfl : 0 = nj := by
         have h1 := hpj.1.2
         have h2 : qs = [] := by simpa using hq
         rw [h2] at h1; exact h1
        have hBJ := hBI.trans (hbj.mono hBI.size)
        have hnn : ((ni : Int) == (ni : Int)) = true := by simp
        clear hbj hpj HSI hBI
        go_wp2_with fail
        refine (works11_c _ (HT.out.below hBJ rr)).mono ?_
        rintro e wz ⟨rfl, hbz⟩
        go_wp2
        go_ret
        exact ⟨rfl, Below.trans hBJ (hbz.mono (Below.size hBJ))⟩
     | true =>
      obtain rfl : LL = [v] := HLL.out
      obtain rfl : cn = 1 := HCN.out
      obtain rfl : 1 = n4 := HO6.out.len
      obtain ⟨b7, off7, A7, n7, c7, x7, eA7, hb7, hc7, hx7, hw7⟩ := HO6.out.at_ (k := 0) (by omega)
      obtain rfl : v = x7 := by simpa using hx7
      simp only [Nat.add_zero] at hc7
      subst eA7
      have HW7 := hI hw7
      clear hx7 hw7
      go_wp2_with fail
      refine (wEqual_c A7 Av n7 nv c7 cv v v w6 HW7.out HVR6.out).mono ?_
      rw [decide_eq_true rfl]
      rintro e w8 ⟨rfl, hb8⟩
      have hB8 := hB6.trans (hb8.mono hB6.size)
      have HSR8 := hI (HSR6.out.below hb8 rr)
      clear hb8 hc7 hb7
      go_wp2_with fail
      go_loopw [19, 131] (fun v19 v131 wr => ∃ j t : Nat, v131 = .int .u8 j ∧ v19 = .int .i64 t ∧ j ≤ n2 ∧ Hid (t = k ^ j) ∧ Below w8.heap.size w8 wr) (fun _ v131 _ => n2 - (intOf v131).toNat)
      case atStart => exact ⟨0, 1, rfl, rfl, Nat.zero_le _, by simp [Hid], Below.refl _ _⟩
      case round =>
       obtain ⟨j, t, rfl, rfl, hj, ht, hB⟩ := hrel
       by_cases hlt : j < n2
       ·have hlt' : (j : Int) < (n2 : Int) := by omega
        obtain ⟨t2, ht2⟩ : ∃ t2, t2 = k ^ (j + 1) := ⟨_, rfl⟩
        have ht6 : t2 ≤ 625 := by rw [ht2]; exact HPW.out (j + 1) (by omega)
        have hmul : IntKind.i64.wrap ((t : Int) * (k : Int)) = (t2 : Int) := by
         have e : t2 = t * k := by rw [ht2, ht.out, Nat.pow_succ]
         have e2 : (t : Int) * (k : Int) = (t2 : Int) := by rw [e]; exact (Int.natCast_mul t k).symm
         rw [e2]; exact IntWalk.i64_in _ (by omega)
        have HT2 : Hid (t2 = k ^ (j + 1)) := ht2
        obtain ⟨j2, hj2⟩ : ∃ j2, j2 = j + 1 := ⟨_, rfl⟩
        have hu8 : IntKind.u8.wrap ((j : Int) + 1) = (j2 : Int) := by
         rw [hj2]; unfold IntKind.wrap; simp [IntKind.min, IntKind.max, IntKind.signed, IntKind.bits]; omega
        rw [← hj2] at HT2
        have hj2n : j2 ≤ n2 := by omega
        have hj2j : j < j2 := by omega
        clear ht2 hj2
        go_wp2
        go_roundw
        case rel => exact ⟨j2, t2, rfl, rfl, hj2n, HT2, hB⟩
        case measure => simp [intOf]; omega
       ·obtain rfl : n2 = j := by omega
        have hBA := Below.trans hB8 (hB.mono (Below.size hB8))
        have HSA := hI (HSR8.out.below hB rr)
        clear hB hlt hj
        go_wp2_with fail
        refine (image_c none 0 0 [] _ k 5 (alpha5.take k) n2 _ (IsLaws.none _) HSA.out (HT.out.below hBA rr)).mono ?_
        rw [HIM.out]
        rintro e wi ⟨Ai, ni, ci, rfl, hwi, hbi⟩
        have hBI := hBA.trans (hbi.mono hBA.size)
        have hni : ni = t := by rw [← hwi.len, words_len, HAL.out, ht.out]
        subst hni
        have HSI := hI (HSA.out.below hbi rr)
        clear hbi hwi HSA hBA
        go_wp2_with fail
        refine (lost_c none 0 0 [] _ k 5 (alpha5.take k) n2 wi (IsLaws.none _) HSI.out (HT.out.below hBI rr) HAU.out).mono ?_
        rw [HLO.out]
        rintro e wj ⟨Aj, nj, cj, qs, rfl, hq, hpj, hbj⟩
        obtain rfl : 0 = nj := by
         have h1 := hpj.1.2
         have h2 : qs = [] := by simpa using hq
         rw [h2] at h1; exact h1
        have hBJ := hBI.trans (hbj.mono hBI.size)
        have hnn : ((ni : Int) == (ni : Int)) = true := by simp
        clear hbj hpj HSI hBI
        go_wp2_with fail
        refine (works11_c _ (HT.out.below hBJ rr)).mono ?_
        rintro e wz ⟨rfl, hbz⟩
        go_wp2
        go_ret
        exact ⟨rfl, Below.trans hBJ (hbz.mono (Below.size hBJ))⟩
    ·have hnl0 : (0 : Int) < (nl : Int) := by omega
     obtain ⟨bl, ofl, x, eA, hbl, hlx, hx256, hcx⟩ := (HL.out.below HBW.out rr).at_ (k := 0) (by omega)
     have hx8 := HNG.out HK6.out x hlx
     have hxm : ((x : Int) % 8) = 0 := by omega
     have hxt : Int.tmod (x : Int) 8 = 0 := by rw [Int.tmod_eq_emod_of_nonneg (by omega)]; exact hxm
     simp only [Nat.add_zero] at hcx
     subst eA
     clear hlx hx8 hnl
     go_wp2_with fail
     refine (backAll_c none 0 0 [] Av nv cv v _ k 5 (alpha5.take k) 9 wr (IsLaws.none _) HVR.out HSR.out (HT.out.below HBW.out rr) (by omega)).mono ?_
     rw [HBM.out]
     rintro e w4 ⟨A4, n4, c4, rfl, hw4, hb4⟩
     have hB4 := HBW.out.trans (hb4.mono HBW.out.size)
     have HVR4 := hI (HVR.out.below hb4 rr)
     have HSR4 := hI (HSR.out.below hb4 rr)
     have HO4 := hI hw4
     clear hb4 hw4 HVR HSR
     go_wp2_with fail
     refine (invCount_c none 0 0 [] Av nv cv v _ k 5 (alpha5.take k) w4 (IsLaws.none _) HVR4.out HSR4.out (HT.out.below hB4 rr) (by omega)).mono ?_
     rw [HCM.out]
     rintro e w5 ⟨rfl, hb5⟩
     have hB5 := hB4.trans (hb5.mono hB4.size)
     have HVR5 := hI (HVR4.out.below hb5 rr)
     have HSR5 := hI (HSR4.out.below hb5 rr)
     have HO5 := hI (HO4.out.below hb5 rr)
     clear hb5 HVR4 HSR4 HO4
     go_wp2_with fail
     refine (reached_c none 0 0 [] Av nv cv v _ k 5 (alpha5.take k) w5 (IsLaws.none _) HVR5.out HSR5.out (HT.out.below hB5 rr) (by omega)).mono ?_
     rw [HRM.out]
     rintro e w6 ⟨rfl, hb6⟩
     have hB6 := hB5.trans (hb6.mono hB5.size)
     have HVR6 := hI (HVR5.out.below hb6 rr)
     have HSR6 := hI (HSR5.out.below hb6 rr)
     have HO6 := hI (HO5.out.below hb6 rr)
     clear hb6 HVR5 HSR5 HO5 HBM HCM HRM HWZ
     cases ib with
     | false =>
      obtain rfl : LL = [] := HLL.out
      obtain rfl : cn = 0 := HCN.out
      obtain rfl : 0 = n4 := HO6.out.len
      go_wp2_with fail
      go_loopw [19, 131] (fun v19 v131 wr => ∃ j t : Nat, v131 = .int .u8 j ∧ v19 = .int .i64 t ∧ j ≤ n2 ∧ Hid (t = k ^ j) ∧ Below w6.heap.size w6 wr) (fun _ v131 _ => n2 - (intOf v131).toNat)
      case atStart => exact ⟨0, 1, rfl, rfl, Nat.zero_le _, by simp [Hid], Below.refl _ _⟩
      case round =>
       obtain ⟨j, t, rfl, rfl, hj, ht, hB⟩ := hrel
       by_cases hlt : j < n2
       ·have hlt' : (j : Int) < (n2 : Int) := by omega
        obtain ⟨t2, ht2⟩ : ∃ t2, t2 = k ^ (j + 1) := ⟨_, rfl⟩
        have ht6 : t2 ≤ 625 := by rw [ht2]; exact HPW.out (j + 1) (by omega)
        have hmul : IntKind.i64.wrap ((t : Int) * (k : Int)) = (t2 : Int) := by
         have e : t2 = t * k := by rw [ht2, ht.out, Nat.pow_succ]
         have e2 : (t : Int) * (k : Int) = (t2 : Int) := by rw [e]; exact (Int.natCast_mul t k).symm
         rw [e2]; exact IntWalk.i64_in _ (by omega)
        have HT2 : Hid (t2 = k ^ (j + 1)) := ht2
        obtain ⟨j2, hj2⟩ : ∃ j2, j2 = j + 1 := ⟨_, rfl⟩
        have hu8 : IntKind.u8.wrap ((j : Int) + 1) = (j2 : Int) := by
         rw [hj2]; unfold IntKind.wrap; simp [IntKind.min, IntKind.max, IntKind.signed, IntKind.bits]; omega
        rw [← hj2] at HT2
        have hj2n : j2 ≤ n2 := by omega
        have hj2j : j < j2 := by omega
        clear ht2 hj2
        go_wp2
        go_roundw
        case rel => exact ⟨j2, t2, rfl, rfl, hj2n, HT2, hB⟩
        case measure => simp [intOf]; omega
       ·obtain rfl : n2 = j := by omega
        have hBA := Below.trans hB6 (hB.mono (Below.size hB6))
        have HSA := hI (HSR6.out.below hB rr)
        clear hB hlt hj
        go_wp2_with fail
        refine (image_c none 0 0 [] _ k 5 (alpha5.take k) n2 _ (IsLaws.none _) HSA.out (HT.out.below hBA rr)).mono ?_
        rw [HIM.out]
        rintro e wi ⟨Ai, ni, ci, rfl, hwi, hbi⟩
        have hBI := hBA.trans (hbi.mono hBA.size)
        have hni : ni = t := by rw [← hwi.len, words_len, HAL.out, ht.out]
        subst hni
        have HSI := hI (HSA.out.below hbi rr)
        clear hbi hwi HSA hBA
        go_wp2_with fail
        refine (lost_c none 0 0 [] _ k 5 (alpha5.take k) n2 wi (IsLaws.none _) HSI.out (HT.out.below hBI rr) HAU.out).mono ?_
        rw [HLO.out]
        rintro e wj ⟨Aj, nj, cj, qs, rfl, hq, hpj, hbj⟩
        obtain rfl : 0 = nj := by
         have h1 := hpj.1.2
         have h2 : qs = [] := by simpa using hq
         rw [h2] at h1; exact h1
        have hBJ := hBI.trans (hbj.mono hBI.size)
        have hnn : ((ni : Int) == (ni : Int)) = true := by simp
        clear hbj hpj HSI hBI
        go_wp2_with fail
        refine (works11_c _ (HT.out.below hBJ rr)).mono ?_
        rintro e wz ⟨rfl, hbz⟩
        go_wp2
        go_ret
        exact ⟨rfl, Below.trans hBJ (hbz.mono (Below.size hBJ))⟩
     | true =>
      obtain rfl : LL = [v] := HLL.out
      obtain rfl : cn = 1 := HCN.out
      obtain rfl : 1 = n4 := HO6.out.len
      obtain ⟨b7, off7, A7, n7, c7, x7, eA7, hb7, hc7, hx7, hw7⟩ := HO6.out.at_ (k := 0) (by omega)
      obtain rfl : v = x7 := by simpa using hx7
      simp only [Nat.add_zero] at hc7
      subst eA7
      have HW7 := hI hw7
      clear hx7 hw7
      go_wp2_with fail
      refine (wEqual_c A7 Av n7 nv c7 cv v v w6 HW7.out HVR6.out).mono ?_
      rw [decide_eq_true rfl]
      rintro e w8 ⟨rfl, hb8⟩
      have hB8 := hB6.trans (hb8.mono hB6.size)
      have HSR8 := hI (HSR6.out.below hb8 rr)
      clear hb8 hc7 hb7
      go_wp2_with fail
      go_loopw [19, 131] (fun v19 v131 wr => ∃ j t : Nat, v131 = .int .u8 j ∧ v19 = .int .i64 t ∧ j ≤ n2 ∧ Hid (t = k ^ j) ∧ Below w8.heap.size w8 wr) (fun _ v131 _ => n2 - (intOf v131).toNat)
      case atStart => exact ⟨0, 1, rfl, rfl, Nat.zero_le _, by simp [Hid], Below.refl _ _⟩
      case round =>
       obtain ⟨j, t, rfl, rfl, hj, ht, hB⟩ := hrel
       by_cases hlt : j < n2
       ·have hlt' : (j : Int) < (n2 : Int) := by omega
        obtain ⟨t2, ht2⟩ : ∃ t2, t2 = k ^ (j + 1) := ⟨_, rfl⟩
        have ht6 : t2 ≤ 625 := by rw [ht2]; exact HPW.out (j + 1) (by omega)
        have hmul : IntKind.i64.wrap ((t : Int) * (k : Int)) = (t2 : Int) := by
         have e : t2 = t * k := by rw [ht2, ht.out, Nat.pow_succ]
         have e2 : (t : Int) * (k : Int) = (t2 : Int) := by rw [e]; exact (Int.natCast_mul t k).symm
         rw [e2]; exact IntWalk.i64_in _ (by omega)
        have HT2 : Hid (t2 = k ^ (j + 1)) := ht2
        obtain ⟨j2, hj2⟩ : ∃ j2, j2 = j + 1 := ⟨_, rfl⟩
        have hu8 : IntKind.u8.wrap ((j : Int) + 1) = (j2 : Int) := by
         rw [hj2]; unfold IntKind.wrap; simp [IntKind.min, IntKind.max, IntKind.signed, IntKind.bits]; omega
        rw [← hj2] at HT2
        have hj2n : j2 ≤ n2 := by omega
        have hj2j : j < j2 := by omega
        clear ht2 hj2
        go_wp2
        go_roundw
        case rel => exact ⟨j2, t2, rfl, rfl, hj2n, HT2, hB⟩
        case measure => simp [intOf]; omega
       ·obtain rfl : n2 = j := by omega
        have hBA := Below.trans hB8 (hB.mono (Below.size hB8))
        have HSA := hI (HSR8.out.below hB rr)
        clear hB hlt hj
        go_wp2_with fail
        refine (image_c none 0 0 [] _ k 5 (alpha5.take k) n2 _ (IsLaws.none _) HSA.out (HT.out.below hBA rr)).mono ?_
        rw [HIM.out]
        rintro e wi ⟨Ai, ni, ci, rfl, hwi, hbi⟩
        have hBI := hBA.trans (hbi.mono hBA.size)
        have hni : ni = t := by rw [← hwi.len, words_len, HAL.out, ht.out]
        subst hni
        have HSI := hI (HSA.out.below hbi rr)
        clear hbi hwi HSA hBA
        go_wp2_with fail
        refine (lost_c none 0 0 [] _ k 5 (alpha5.take k) n2 wi (IsLaws.none _) HSI.out (HT.out.below hBI rr) HAU.out).mono ?_
        rw [HLO.out]
        rintro e wj ⟨Aj, nj, cj, qs, rfl, hq, hpj, hbj⟩
        obtain rfl : 0 = nj := by
         have h1 := hpj.1.2
         have h2 : qs = [] := by simpa using hq
         rw [h2] at h1; exact h1
        have hBJ := hBI.trans (hbj.mono hBI.size)
        have hnn : ((ni : Int) == (ni : Int)) = true := by simp
        clear hbj hpj HSI hBI
        go_wp2_with fail
        refine (works11_c _ (HT.out.below hBJ rr)).mono ?_
        rintro e wz ⟨rfl, hbz⟩
        go_wp2
        go_ret
        exact ⟨rfl, Below.trans hBJ (hbz.mono (Below.size hBJ))⟩
   ·have hk7 : ((k : Int) == 5) = false := by simp; omega
    clear hk6
    go_wp2_with fail
    refine (backAll_c none 0 0 [] Av nv cv v _ k 5 (alpha5.take k) 9 wr (IsLaws.none _) HVR.out HSR.out (HT.out.below HBW.out rr) (by omega)).mono ?_
    rw [HBM.out]
    rintro e w4 ⟨A4, n4, c4, rfl, hw4, hb4⟩
    have hB4 := HBW.out.trans (hb4.mono HBW.out.size)
    have HVR4 := hI (HVR.out.below hb4 rr)
    have HSR4 := hI (HSR.out.below hb4 rr)
    have HO4 := hI hw4
    clear hb4 hw4 HVR HSR
    go_wp2_with fail
    refine (invCount_c none 0 0 [] Av nv cv v _ k 5 (alpha5.take k) w4 (IsLaws.none _) HVR4.out HSR4.out (HT.out.below hB4 rr) (by omega)).mono ?_
    rw [HCM.out]
    rintro e w5 ⟨rfl, hb5⟩
    have hB5 := hB4.trans (hb5.mono hB4.size)
    have HVR5 := hI (HVR4.out.below hb5 rr)
    have HSR5 := hI (HSR4.out.below hb5 rr)
    have HO5 := hI (HO4.out.below hb5 rr)
    clear hb5 HVR4 HSR4 HO4
    go_wp2_with fail
    refine (reached_c none 0 0 [] Av nv cv v _ k 5 (alpha5.take k) w5 (IsLaws.none _) HVR5.out HSR5.out (HT.out.below hB5 rr) (by omega)).mono ?_
    rw [HRM.out]
    rintro e w6 ⟨rfl, hb6⟩
    have hB6 := hB5.trans (hb6.mono hB5.size)
    have HVR6 := hI (HVR5.out.below hb6 rr)
    have HSR6 := hI (HSR5.out.below hb6 rr)
    have HO6 := hI (HO5.out.below hb6 rr)
    clear hb6 HVR5 HSR5 HO5 HBM HCM HRM HWZ
    cases ib with
    | false =>
     obtain rfl : LL = [] := HLL.out
     obtain rfl : cn = 0 := HCN.out
     obtain rfl : 0 = n4 := HO6.out.len
     go_wp2_with fail
     go_loopw [19, 131] (fun v19 v131 wr => ∃ j t : Nat, v131 = .int .u8 j ∧ v19 = .int .i64 t ∧ j ≤ n2 ∧ Hid (t = k ^ j) ∧ Below w6.heap.size w6 wr) (fun _ v131 _ => n2 - (intOf v131).toNat)
     case atStart => exact ⟨0, 1, rfl, rfl, Nat.zero_le _, by simp [Hid], Below.refl _ _⟩
     case round =>
      obtain ⟨j, t, rfl, rfl, hj, ht, hB⟩ := hrel
      by_cases hlt : j < n2
      ·have hlt' : (j : Int) < (n2 : Int) := by omega
       obtain ⟨t2, ht2⟩ : ∃ t2, t2 = k ^ (j + 1) := ⟨_, rfl⟩
       have ht6 : t2 ≤ 625 := by rw [ht2]; exact HPW.out (j + 1) (by omega)
       have hmul : IntKind.i64.wrap ((t : Int) * (k : Int)) = (t2 : Int) := by
        have e : t2 = t * k := by rw [ht2, ht.out, Nat.pow_succ]
        have e2 : (t : Int) * (k : Int) = (t2 : Int) := by rw [e]; exact (Int.natCast_mul t k).symm
        rw [e2]; exact IntWalk.i64_in _ (by omega)
       have HT2 : Hid (t2 = k ^ (j + 1)) := ht2
       obtain ⟨j2, hj2⟩ : ∃ j2, j2 = j + 1 := ⟨_, rfl⟩
       have hu8 : IntKind.u8.wrap ((j : Int) + 1) = (j2 : Int) := by
        rw [hj2]; unfold IntKind.wrap; simp [IntKind.min, IntKind.max, IntKind.signed, IntKind.bits]; omega
       rw [← hj2] at HT2
       have hj2n : j2 ≤ n2 := by omega
       have hj2j : j < j2 := by omega
       clear ht2 hj2
       go_wp2
       go_roundw
       case rel => exact ⟨j2, t2, rfl, rfl, hj2n, HT2, hB⟩
       case measure => simp [intOf]; omega
      ·obtain rfl : n2 = j := by omega
       have hBA := Below.trans hB6 (hB.mono (Below.size hB6))
       have HSA := hI (HSR6.out.below hB rr)
       clear hB hlt hj
       go_wp2_with fail
       refine (image_c none 0 0 [] _ k 5 (alpha5.take k) n2 _ (IsLaws.none _) HSA.out (HT.out.below hBA rr)).mono ?_
       rw [HIM.out]
       rintro e wi ⟨Ai, ni, ci, rfl, hwi, hbi⟩
       have hBI := hBA.trans (hbi.mono hBA.size)
       have hni : ni = t := by rw [← hwi.len, words_len, HAL.out, ht.out]
       subst hni
       have HSI := hI (HSA.out.below hbi rr)
       clear hbi hwi HSA hBA
       go_wp2_with fail
       refine (lost_c none 0 0 [] _ k 5 (alpha5.take k) n2 wi (IsLaws.none _) HSI.out (HT.out.below hBI rr) HAU.out).mono ?_
       rw [HLO.out]
       rintro e wj ⟨Aj, nj, cj, qs, rfl, hq, hpj, hbj⟩
       obtain rfl : 0 = nj := by
        have h1 := hpj.1.2
        have h2 : qs = [] := by simpa using hq
        rw [h2] at h1; exact h1
       have hBJ := hBI.trans (hbj.mono hBI.size)
       have hnn : ((ni : Int) == (ni : Int)) = true := by simp
       clear hbj hpj HSI hBI
       go_wp2_with fail
       refine (works11_c _ (HT.out.below hBJ rr)).mono ?_
       rintro e wz ⟨rfl, hbz⟩
       go_wp2
       go_ret
       exact ⟨rfl, Below.trans hBJ (hbz.mono (Below.size hBJ))⟩
    | true =>
     obtain rfl : LL = [v] := HLL.out
     obtain rfl : cn = 1 := HCN.out
     obtain rfl : 1 = n4 := HO6.out.len
     obtain ⟨b7, off7, A7, n7, c7, x7, eA7, hb7, hc7, hx7, hw7⟩ := HO6.out.at_ (k := 0) (by omega)
     obtain rfl : v = x7 := by simpa using hx7
     simp only [Nat.add_zero] at hc7
     subst eA7
     have HW7 := hI hw7
     clear hx7 hw7
     go_wp2_with fail
     refine (wEqual_c A7 Av n7 nv c7 cv v v w6 HW7.out HVR6.out).mono ?_
     rw [decide_eq_true rfl]
     rintro e w8 ⟨rfl, hb8⟩
     have hB8 := hB6.trans (hb8.mono hB6.size)
     have HSR8 := hI (HSR6.out.below hb8 rr)
     clear hb8 hc7 hb7
     go_wp2_with fail
     go_loopw [19, 131] (fun v19 v131 wr => ∃ j t : Nat, v131 = .int .u8 j ∧ v19 = .int .i64 t ∧ j ≤ n2 ∧ Hid (t = k ^ j) ∧ Below w8.heap.size w8 wr) (fun _ v131 _ => n2 - (intOf v131).toNat)
     case atStart => exact ⟨0, 1, rfl, rfl, Nat.zero_le _, by simp [Hid], Below.refl _ _⟩
     case round =>
      obtain ⟨j, t, rfl, rfl, hj, ht, hB⟩ := hrel
      by_cases hlt : j < n2
      ·have hlt' : (j : Int) < (n2 : Int) := by omega
       obtain ⟨t2, ht2⟩ : ∃ t2, t2 = k ^ (j + 1) := ⟨_, rfl⟩
       have ht6 : t2 ≤ 625 := by rw [ht2]; exact HPW.out (j + 1) (by omega)
       have hmul : IntKind.i64.wrap ((t : Int) * (k : Int)) = (t2 : Int) := by
        have e : t2 = t * k := by rw [ht2, ht.out, Nat.pow_succ]
        have e2 : (t : Int) * (k : Int) = (t2 : Int) := by rw [e]; exact (Int.natCast_mul t k).symm
        rw [e2]; exact IntWalk.i64_in _ (by omega)
       have HT2 : Hid (t2 = k ^ (j + 1)) := ht2
       obtain ⟨j2, hj2⟩ : ∃ j2, j2 = j + 1 := ⟨_, rfl⟩
       have hu8 : IntKind.u8.wrap ((j : Int) + 1) = (j2 : Int) := by
        rw [hj2]; unfold IntKind.wrap; simp [IntKind.min, IntKind.max, IntKind.signed, IntKind.bits]; omega
       rw [← hj2] at HT2
       have hj2n : j2 ≤ n2 := by omega
       have hj2j : j < j2 := by omega
       clear ht2 hj2
       go_wp2
       go_roundw
       case rel => exact ⟨j2, t2, rfl, rfl, hj2n, HT2, hB⟩
       case measure => simp [intOf]; omega
      ·obtain rfl : n2 = j := by omega
       have hBA := Below.trans hB8 (hB.mono (Below.size hB8))
       have HSA := hI (HSR8.out.below hB rr)
       clear hB hlt hj
       go_wp2_with fail
       refine (image_c none 0 0 [] _ k 5 (alpha5.take k) n2 _ (IsLaws.none _) HSA.out (HT.out.below hBA rr)).mono ?_
       rw [HIM.out]
       rintro e wi ⟨Ai, ni, ci, rfl, hwi, hbi⟩
       have hBI := hBA.trans (hbi.mono hBA.size)
       have hni : ni = t := by rw [← hwi.len, words_len, HAL.out, ht.out]
       subst hni
       have HSI := hI (HSA.out.below hbi rr)
       clear hbi hwi HSA hBA
       go_wp2_with fail
       refine (lost_c none 0 0 [] _ k 5 (alpha5.take k) n2 wi (IsLaws.none _) HSI.out (HT.out.below hBI rr) HAU.out).mono ?_
       rw [HLO.out]
       rintro e wj ⟨Aj, nj, cj, qs, rfl, hq, hpj, hbj⟩
       obtain rfl : 0 = nj := by
        have h1 := hpj.1.2
        have h2 : qs = [] := by simpa using hq
        rw [h2] at h1; exact h1
       have hBJ := hBI.trans (hbj.mono hBI.size)
       have hnn : ((ni : Int) == (ni : Int)) = true := by simp
       clear hbj hpj HSI hBI
       go_wp2_with fail
       refine (works11_c _ (HT.out.below hBJ rr)).mono ?_
       rintro e wz ⟨rfl, hbz⟩
       go_wp2
       go_ret
       exact ⟨rfl, Below.trans hBJ (hbz.mono (Below.size hBJ))⟩
end Go.Proofs.YtlgliddhideflaaGreatDoor

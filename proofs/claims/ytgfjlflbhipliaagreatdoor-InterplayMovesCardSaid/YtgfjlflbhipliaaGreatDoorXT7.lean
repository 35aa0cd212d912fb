/-
  ablautlaw12.InterplayMoves is true.
-/
import Derived.Test.YtgfjlflbhipliaaGreatDoorG45
import Derived.Test.YtgfjlflbhipliaaGreatDoorXMovL
set_option linter.unusedVariables false
set_option linter.unusedSimpArgs false
set_option maxRecDepth 100000
set_option maxHeartbeats 4000000
namespace Go.Proofs.YtgfjlflbhipliaaGreatDoor
open Go.RowKit Go.Shelf
theorem moves_c (A : Option Addr) (n c : Nat) (xs : List LawR) (A' : Option Addr) (n' c' : Nat) (wss : List (List Snd)) (w : World) (hx : IsLaws w A n c xs) (hw : IsWords w A' n' c' wss) (hT : TabOK w) :
  Calls Tryz.prog 7 #[.slice A n c, .slice A' n' c'] w (RetTrue w) := by
 have hmx := hx.max
 have hmw := hw.max
 have HX := hI hx; clear hx
 have HW := hI hw; clear hw
 have HT := hI hT; clear hT
 have HXN : Hid (xs.length = n) := HX.out.len
 have HLN : Hid ((lawsD xs).length = n) := by show (lawsD xs).length = n; rw [lawsD, List.length_map]; exact HX.out.len
 go_enter Tryz.func7, Tryz.ntmps7
 go_wp2_with fail
 refine (few_c A n c xs 5 A' n' c' wss w HX.out HW.out).mono ?_
 rintro e w1 ⟨⟨b1, rfl, hb1⟩, hB1⟩
 have HB1 := hI hB1; clear hB1
 cases b1
 ·clear hb1
  go_wp2_with fail
  refine (works12_c _ (HT.out.below HB1.out rr)).mono ?_
  rintro e w2 ⟨rfl, hbw⟩
  go_wp2
  go_ret
  exact ⟨rfl, Below.trans HB1.out (hbw.mono (Below.size HB1.out))⟩
 obtain ⟨hn5, hn12⟩ := hb1 rfl
 clear hb1
 go_wp2_with fail
 refine (blocks_c A n c xs A' n' c' wss w1 (HX.out.below HB1.out rr) (HW.out.below HB1.out rr) (HT.out.below HB1.out rr)).mono ?_
 rintro e w2 ⟨A2, n2, c2, rfl, hi2, hb⟩
 have HB2 := hI (HB1.out.trans (hb.mono HB1.out.size)); clear hb HB1
 rcases blocks_cases (lawsD xs) wss with ⟨er, her, hb⟩ | ⟨ps, hb, hpl, hle, hall, hok, hpp⟩
 ·rw [hb] at hi2 ⊢
  obtain rfl : n2 = 0 := by have h := hi2.len; simpa using h.symm
  have h3 : (er != 0) = true := by simpa using her
  clear hb her hi2
  go_wp2_with fail
  refine (works12_c _ (HT.out.below HB2.out rr)).mono ?_
  rintro e w3 ⟨rfl, hbw⟩
  go_wp2
  go_ret
  exact ⟨rfl, Below.trans HB2.out (hbw.mono (Below.size HB2.out))⟩
 rw [hb] at hi2 ⊢
 rw [HLN.out] at hpl
 obtain rfl : n2 = n := by have h := hi2.len; simp only [List.length_map] at h; omega
 have hm2 := hi2.max
 have HI2 := hI hi2; clear hi2
 have HPL := hI hpl; clear hpl
 have HLE := hI hle; clear hle
 have HALL := hI hall; clear hall
 have HOK := hI hok; clear hok
 have HPP := hI hpp; clear hpp hb
 go_wp2_with fail
 go_loopw [7] (fun i wr => ∃ k : Nat, i = .int .i64 k ∧ k ≤ n2 ∧ Below w2.heap.size w2 wr) (fun i _ => n2 - (intOf i).toNat)
 case atStart => exact ⟨0, rfl, Nat.zero_le _, Below.refl _ _⟩
 case round =>
  obtain ⟨i, rfl, hi, hB0⟩ := hrel
  by_cases hlt : i < n2
  ·have hi1 : (i : Int) < (n2 : Int) := by omega
   obtain ⟨p, hp⟩ : ∃ p, ps[i]? = some p := ⟨ps[i]'(by rw [HPL.out]; exact hlt), List.getElem?_eq_getElem _⟩
   have hPP := HPP.out i p hp
   have hpi := hPP.1
   obtain ⟨b5, o5, x5, hA2, hb5, hc5, hx5⟩ := HI2.out.at_ hlt
   obtain rfl : ((p : Nat) : Int) = x5 := by rw [List.getElem?_map, hp] at hx5; exact Option.some.inj hx5
   subst hA2
   have HC5 := hI hc5
   have hcp := (hB0.cell (p := ⟨b5, o5 + i, none⟩) hb5).trans hc5
   obtain ⟨s0, hs0⟩ := HX.out.get (show i < n2 by omega)
   obtain ⟨b, off, hA, hbb, hg0⟩ := HX.out.at_ hs0
   subst hA
   have HS0 := hI hs0; clear hs0
   have HG0 := hI hg0; clear hg0
   have HPPi := hI hPP; clear hPP hp hx5 hc5
   obtain ⟨lo, hlo⟩ : ∃ lo : Nat, lo = p - 1 := ⟨_, rfl⟩
   have e1 : ¬ ((p : Int) < 0) := by omega
   have e2 : ¬ ((i : Int) < (p : Int)) := by omega
   have e3 : IntKind.i64.wrap ((p : Int) - 1) = (p : Int) - 1 := IntWalk.i64_in _ (by omega)
   have e4 : max (0 : Int) ((p : Int) - 1) = (lo : Int) := by omega
   have hlo1 : p ≤ lo + 1 := by omega
   have hlo2 : lo ≤ i := by omega
   clear hlo
   obtain ⟨wo, hwo⟩ : ∃ wo, wo = wr := ⟨_, rfl⟩
   subst hwo
   go_wp2_with fail
   clear e1 e2 e3 e4 hcp
   go_loopw [8] (fun t wr => ∃ t0 : Nat, t = .int .i64 t0 ∧ lo ≤ t0 ∧ t0 ≤ i + 1 ∧ Below w2.heap.size w2 wr) (fun t _ => i + 1 - (intOf t).toNat)
   case atStart => exact ⟨lo, rfl, rr, by omega, hB0⟩
   case round =>
    obtain ⟨t, rfl, ht1, ht2, hBt⟩ := hrel
    by_cases hti : t ≤ i
    ·have hti1 : (t : Int) ≤ (i : Int) := by omega
     obtain ⟨w3, hw3⟩ : ∃ w3, w3 = wr := ⟨_, rfl⟩
     subst hw3
     have HB3 := hI (HB2.out.trans (hBt.mono HB2.out.size))
     have hz3 := HB3.out.size
     go_wp2_with fail
     go_loopw [9, 10] (fun v k wr => ∃ k0 : Nat, k = .int .i64 k0 ∧ k0 ≤ t ∧ Hid (wr.ownsRow w3.heap.size 43 18 v k0 ((xs.take k0).flatMap LawR.cells)) ∧ Below w3.heap.size w3 wr) (fun _ k _ => t - (intOf k).toNat)
     case atStart => exact ⟨0, rfl, Nat.zero_le _, World.ownsRow_nil _ _ _ _, Below.refl _ _⟩
     case round =>
      obtain ⟨q, rfl, hq, hown, hB⟩ := hrel
      have hBs := hB.size
      obtain ⟨A7, c7, rfl⟩ := own_form hown.out
      have HBr := hI (HB3.out.trans (hB.mono hz3))
      by_cases hqt : q < t
      ·have hq1 : (q : Int) < (t : Int) := by omega
       have hq2 : (q : Int) < (n2 : Int) := by omega
       obtain ⟨s, hs⟩ := HX.out.get (show q < n2 by omega)
       obtain ⟨b', off', hA', _, hgs⟩ := HX.out.at_ hs
       obtain ⟨rfl, rfl⟩ : b = b' ∧ off = off' := by simpa using hA'
       have HRG := hI (range_below hgs HBr.out hbb)
       have HSN := hI (take_snoc' xs q s hs)
       clear hA' hgs hs
       have HOWN2 : Hid ((wr.alloc (.cells (s.cells).toArray 43)).ownsRow w3.heap.size 43 18 (.slice A7 q c7) q ((xs.take q).flatMap LawR.cells)) := hown.out.alloc _
       have HREC : Hid (Recs LawR.cells 18 (wr.alloc (.cells (s.cells).toArray 43)) (some ⟨wr.heap.size, 0, none⟩) 1 1 [s]) :=
        ⟨⟨by simp [LawR.len], rr, by unfold maxLen; omega, (fun h => by cases h), fun _ => ⟨wr.heap.size, 0, rfl, by simp, fun j v hv => by rw [Nat.zero_add]; exact cell_new_at (by simpa using hv)⟩⟩, rfl⟩
       go_wp2_with (first | (refine load_lawM rfl (.tmp 80) rfl b (off + q * 18) s rfl HRG.out ?_) | (refine build_law1 rfl (.tmp 81) rfl s rfl ?_) | (at_builtin; refine append_laws rfl (.tmp 77) (.tmp 82) rfl w3.heap.size (.slice A7 q c7) q (xs.take q) rfl HOWN2.out (some ⟨wr.heap.size, 0, none⟩) 1 1 [s] rfl HREC.out (by omega) (by simp; omega) ?hc))
       case hc =>
        intro v' w9 hown9 hg9 _
        have hB9 : Below w3.heap.size w3 w9 := (hB.alloc hBs _).grown hg9 (by simp; omega) (fun p hp => (HOWN2.out.lt _ hp).1)
        go_wp2
        go_roundw
        case rel => exact ⟨q + 1, by go_num, by omega, (by show World.ownsRow _ _ _ _ _ _ _; rw [HSN.out]; first | exact hown9 | (rw [List.flatMap_append, List.flatMap_singleton]; exact hown9)), hB9⟩
        case measure => simp [intOf]; omega
      ·obtain rfl : q = t := by omega
       obtain ⟨s, hss⟩ : ∃ s, s = s0 := ⟨_, rfl⟩
       have HRG : Hid (wr.rangeAt b (off + i * 18) s.cells) := by show World.rangeAt _ _ _ _; rw [hss]; exact range_below HG0.out HBr.out hbb
       have HSS := hI hss; clear hss
       have HOWN2 : Hid ((wr.alloc (.cells (s.cells).toArray 43)).ownsRow w3.heap.size 43 18 (.slice A7 q c7) q ((xs.take q).flatMap LawR.cells)) := hown.out.alloc _
       have HREC : Hid (Recs LawR.cells 18 (wr.alloc (.cells (s.cells).toArray 43)) (some ⟨wr.heap.size, 0, none⟩) 1 1 [s]) :=
        ⟨⟨by simp [LawR.len], rr, by unfold maxLen; omega, (fun h => by cases h), fun _ => ⟨wr.heap.size, 0, rfl, by simp, fun j v hv => by rw [Nat.zero_add]; exact cell_new_at (by simpa using hv)⟩⟩, rfl⟩
       go_wp2_with (first | (refine load_lawM rfl (.tmp 87) rfl b (off + i * 18) s rfl HRG.out ?_) | (refine build_law1 rfl (.tmp 88) rfl s rfl ?_) | (at_builtin; refine append_laws rfl (.tmp 84) (.tmp 89) rfl w3.heap.size (.slice A7 q c7) q (xs.take q) rfl HOWN2.out (some ⟨wr.heap.size, 0, none⟩) 1 1 [s] rfl HREC.out (by omega) (by simp; omega) ?hc))
       case hc =>
        intro v' w9 hown9 hg9 _
        have hB9 : Below w3.heap.size w3 w9 := (hB.alloc hBs _).grown hg9 (by simp; omega) (fun p hp => (HOWN2.out.lt _ hp).1)
        have HO9 : Hid (w9.ownsRow w3.heap.size 43 18 v' (q + 1) ((moP xs s0 i q q).flatMap LawR.cells)) := by show World.ownsRow _ _ _ _ _ _ _; rw [moP_start hti, ← HSS.out]; first | exact hown9 | (rw [List.flatMap_append, List.flatMap_singleton]; exact hown9)
        clear hown9 hg9 HOWN2 HREC HRG HSS hown
        obtain ⟨t, ht⟩ : ∃ t, t = q := ⟨_, rfl⟩
        subst ht
        go_wp2_with fail
        go_loopw [9, 11] (fun v k wr => ∃ k0 q : Nat, k = .int .i64 k0 ∧ t ≤ k0 ∧ k0 ≤ n2 ∧ q ≤ k0 + 1 ∧ Hid (wr.ownsRow w3.heap.size 43 18 v q ((moP xs s0 i t k0).flatMap LawR.cells)) ∧ Below w3.heap.size w3 wr) (fun _ k _ => n2 - (intOf k).toNat)
        case atStart => exact ⟨t, t + 1, rfl, rr, by omega, rr, HO9.out, hB9⟩
        case round =>
         obtain ⟨k, q, rfl, hk1, hk2, hq, hown, hB⟩ := hrel
         have hBs := hB.size
         obtain ⟨A7, c7, rfl⟩ := own_form hown.out
         have HBr := hI (HB3.out.trans (hB.mono hz3))
         by_cases hkn : k < n2
         ·have hk3 : (k : Int) < (n2 : Int) := by omega
          by_cases hki : k = i
          ·subst hki
           have h1 : ((k : Int) != (k : Int)) = false := by simp
           have HMS := hI (moP_same (xs := xs) (s := s0) (i := k) (t := t))
           go_wp2
           go_roundw
           case rel => exact ⟨k + 1, q, by go_num, by omega, by omega, by omega, (by show World.ownsRow _ _ _ _ _ _ _; rw [HMS.out]; exact hown.out), hB⟩
           case measure => simp [intOf]; omega
          ·have h1 : ((k : Int) != (i : Int)) = true := by simp; omega
           obtain ⟨s, hs⟩ := HX.out.get (show k < n2 by omega)
           obtain ⟨b', off', hA', _, hgs⟩ := HX.out.at_ hs
           obtain ⟨rfl, rfl⟩ : b = b' ∧ off = off' := by simpa using hA'
           have HRG := hI (range_below hgs HBr.out hbb)
           have HSN := hI (moP_step (s := s0) hti hs hk1 hki)
           clear hA' hgs hs hki
           have HOWN2 : Hid ((wr.alloc (.cells (s.cells).toArray 43)).ownsRow w3.heap.size 43 18 (.slice A7 q c7) q ((moP xs s0 i t k).flatMap LawR.cells)) := hown.out.alloc _
           have HREC : Hid (Recs LawR.cells 18 (wr.alloc (.cells (s.cells).toArray 43)) (some ⟨wr.heap.size, 0, none⟩) 1 1 [s]) :=
            ⟨⟨by simp [LawR.len], rr, by unfold maxLen; omega, (fun h => by cases h), fun _ => ⟨wr.heap.size, 0, rfl, by simp, fun j v hv => by rw [Nat.zero_add]; exact cell_new_at (by simpa using hv)⟩⟩, rfl⟩
           go_wp2_with (first | (refine load_lawM rfl (.tmp 104) rfl b (off + k * 18) s rfl HRG.out ?_) | (refine build_law1 rfl (.tmp 105) rfl s rfl ?_) | (at_builtin; refine append_laws rfl (.tmp 101) (.tmp 106) rfl w3.heap.size (.slice A7 q c7) q (moP xs s0 i t k) rfl HOWN2.out (some ⟨wr.heap.size, 0, none⟩) 1 1 [s] rfl HREC.out (by omega) (by simp; omega) ?hc))
           case hc =>
            intro v' w9 hown9 hg9 _
            have hB9 : Below w3.heap.size w3 w9 := (hB.alloc hBs _).grown hg9 (by simp; omega) (fun p hp => (HOWN2.out.lt _ hp).1)
            go_wp2
            go_roundw
            case rel => exact ⟨k + 1, q + 1, by go_num, by omega, by omega, by omega, (by show World.ownsRow _ _ _ _ _ _ _; rw [HSN.out]; first | exact hown9 | (rw [List.flatMap_append, List.flatMap_singleton]; exact hown9)), hB9⟩
            case measure => simp [intOf]; omega
         ·obtain rfl : n2 = k := by omega
          have hownM := hown.out
          rw [moP_full HXN.out HS0.out hti] at hownM
          have HLO : Hid (IsLaws wr A7 q c7 (moved xs i t)) := ⟨Recs.of_own hownM LawR.len (by decide), fun s hs => (HX.out.2 s (moved_mem hs)).below HBr.out rr⟩
          have hB4 := hBt.trans (hB.mono hBt.size)
          have hmq := HLO.out.max
          clear hownM hown hk1 hk2
          obtain ⟨hmk, hmi⟩ := place_at HPPi.out (show p ≤ t + 1 by omega) hti
          have HMK := hI hmk; clear hmk
          have HMI := hI hmi; clear hmi
          go_wp2_with fail
          go_loopw [12, 13] (fun v j wr => ∃ (j0 : Nat) (d : Bool), v = .bool d ∧ j = .int .i64 j0 ∧ j0 ≤ n' ∧ Hid (d = true ↔ ∀ m, m < j0 → (endsL (lawsD xs) wss).getD m [] = (endsL (moved (lawsD xs) i t) wss).getD m []) ∧ Hid (IsLaws wr A7 q c7 (moved xs i t)) ∧ Below w2.heap.size w2 wr) (fun _ j _ => n' - (intOf j).toNat)
          case atStart => exact ⟨0, true, rfl, rfl, Nat.zero_le _, ⟨fun _ m h => by omega, fun _ => rfl⟩, HLO.out, hB4⟩
          case round =>
           obtain ⟨j, d, rfl, rfl, hj, hd, hlo, hB⟩ := hrel
           have hBs := hB.size
           have HBw := hI (HB2.out.trans (hB.mono HB2.out.size))
           by_cases hjn : j < n'
           ·have hj1 : (j : Int) < (n' : Int) := by omega
            obtain ⟨b', off', A1, n1, c1, x, rfl, hbl, hcell, hxk, hwx⟩ := (HW.out.below HBw.out rr).at_ hjn
            have hmem := List.mem_of_getElem? hxk
            have hd1 := derive_ok HLE.out (HALL.out x hmem)
            rw [if_neg (by simpa using HOK.out x hmem)] at hd1
            have hd2 := derive_ok (moved_E (p := t) HLE.out (by rw [HLN.out]; exact hlt)) (HALL.out x hmem)
            rw [if_neg (by simpa using HMK.out x hmem)] at hd2
            rw [← moved_map LawR.l] at hd2
            obtain ⟨y1, hy1⟩ : ∃ y, y = (endM (lawsD xs) x).2 := ⟨_, rfl⟩
            obtain ⟨y2, hy2⟩ : ∃ y, y = (endM (lawsD (moved xs i t)) x).2 := ⟨_, rfl⟩
            rw [← hy1] at hd1
            rw [← hy2] at hd2
            have HD1 := hI hd1
            have HD2 := hI hd2
            have hg1 : (endsL (lawsD xs) wss).getD j [] = y1 := by rw [hy1]; exact getD_of (by unfold endsL; rw [List.getElem?_map, hxk]; rfl)
            have hg2 : (endsL (moved (lawsD xs) i t) wss).getD j [] = y2 := by rw [hy2]; show (endsL (moved (lawsD xs) i t) wss).getD j [] = (endM ((moved xs i t).map LawR.l) x).2; rw [moved_map]; exact getD_of (by unfold endsL; rw [List.getElem?_map, hxk]; rfl)
            have hdn : (decide (y1 = y2) && d) = true ↔ ∀ m, m < j + 1 → (endsL (lawsD xs) wss).getD m [] = (endsL (moved (lawsD xs) i t) wss).getD m [] := by
             constructor
             ·intro h m hm
              simp only [Bool.and_eq_true, decide_eq_true_eq] at h
              rcases Nat.lt_or_ge m j with h1 | h1
              ·exact hd.out.1 h.2 m h1
              ·obtain rfl : m = j := by omega
               rw [hg1, hg2]; exact h.1
             ·intro h
              simp only [Bool.and_eq_true, decide_eq_true_eq]
              exact ⟨by rw [← hg1, ← hg2]; exact h j (by omega), hd.out.2 fun m hm => h m (by omega)⟩
            have HDN := hI hdn
            have HWX := hI hwx
            clear hwx hxk hmem hd1 hd2 hy1 hy2 hg1 hg2 hdn
            go_wp2_with fail
            refine (derive_c (some ⟨b, off, none⟩) n2 c xs A1 n1 c1 x wr (HX.out.below HBw.out rr) HWX.out (HT.out.below HBw.out rr)).mono ?_
            rw [HD1.out]
            rintro e w5 ⟨A5, n5, c5, rfl, hw5, hb5', _⟩
            have hB5 := hB.trans (hb5'.mono hBs)
            have HBw5 := hI (HBw.out.trans (hb5'.mono HBw.out.size))
            have hcell5 := (hb5'.cell (p := ⟨b', off' + j, none⟩) hbl).trans hcell
            have HW5 := hI hw5
            have HWX5 := hI (HWX.out.below hb5' rr)
            have HLO5 := hI (hlo.out.below hb5' rr)
            clear hw5 hb5' hcell
            go_wp2_with fail
            refine (derive_c A7 q c7 (moved xs i t) A1 n1 c1 x w5 HLO5.out HWX5.out (HT.out.below HBw5.out rr)).mono ?_
            rw [HD2.out]
            rintro e w6 ⟨A6, n6, c6, rfl, hw6, hb6, _⟩
            have hB6 := hB5.trans (hb6.mono hB5.size)
            have HW5' := hI (HW5.out.below hb6 rr); clear HW5
            have HW6 := hI hw6
            have HLO6 := hI (HLO5.out.below hb6 rr)
            clear hw6 hb6 hcell5
            cases d
            ·have HDF : Hid (false = true ↔ ∀ m, m < j + 1 → (endsL (lawsD xs) wss).getD m [] = (endsL (moved (lawsD xs) i t) wss).getD m []) := by
              show _ ↔ _
              rw [← HDN.out, Bool.and_false]
             go_wp2
             go_roundw
             case rel => exact ⟨j + 1, false, rfl, by go_num, by omega, HDF.out, HLO6.out, hB6⟩
             case measure => simp [intOf]; omega
            ·go_wp2_with fail
             refine (wEqual_c A5 A6 n5 n6 c5 c6 y1 y2 w6 HW5'.out HW6.out).mono ?_
             rintro e w7 ⟨rfl, hb7⟩
             have hB7 := hB6.trans (hb7.mono hB6.size)
             have HLO7 := hI (HLO6.out.below hb7 rr)
             clear hb7
             have HDF : Hid (decide (y1 = y2) = true ↔ ∀ m, m < j + 1 → (endsL (lawsD xs) wss).getD m [] = (endsL (moved (lawsD xs) i t) wss).getD m []) := by
              show _ ↔ _
              rw [← HDN.out, Bool.and_true]
             obtain ⟨d, hdd⟩ : ∃ d, d = decide (y1 = y2) := ⟨_, rfl⟩
             rw [← hdd] at HDF ⊢
             clear hdd
             go_wp2
             go_roundw
             case rel => exact ⟨j + 1, d, rfl, by go_num, by omega, HDF.out, HLO7.out, hB7⟩
             case measure => simp [intOf]; omega
           ·obtain rfl : j = n' := by omega
            have hdp : d = true ↔ p ≤ t := by
             rw [← HMI.out, ends_ext, HW.out.len]; exact hd.out
            have hcp := (hB.cell (p := ⟨b5, o5 + i, none⟩) hb5).trans HC5.out
            cases d
            ·have h1 : ¬ ((p : Int) ≤ (t : Int)) := fun h => by have := hdp.2 (by omega); cases this
             clear hdp
             go_wp2
             go_roundw
             case rel => exact ⟨t + 1, by go_num, by omega, by omega, hB⟩
             case measure => simp [intOf]; omega
            ·have h1 : (p : Int) ≤ (t : Int) := by have := hdp.1 rfl; omega
             clear hdp
             go_wp2
             go_roundw
             case rel => exact ⟨t + 1, by go_num, by omega, by omega, hB⟩
             case measure => simp [intOf]; omega
    ·have hti1 : ¬ ((t : Int) ≤ (i : Int)) := by omega
     go_wp2
     go_roundw
     case rel => exact ⟨i + 1, by go_num, by omega, hBt⟩
     case measure => simp [intOf]; omega
  ·obtain rfl : i = n2 := by omega
   have HBX := hI (HB2.out.trans (hB0.mono HB2.out.size))
   go_wp2_with fail
   refine (works12_c _ (HT.out.below HBX.out rr)).mono ?_
   rintro e w9 ⟨rfl, hbw⟩
   go_wp2
   go_ret
   exact ⟨rfl, Below.trans HBX.out (hbw.mono (Below.size HBX.out))⟩
end Go.Proofs.YtgfjlflbhipliaaGreatDoor

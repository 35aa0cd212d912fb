/-
  ablautlaw12.InterplayFirst is true.
-/
import Derived.Test.YtgfjlflbhipliaaGreatDoorG45
import Derived.Test.YtgfjlflbhipliaaGreatDoorG37
set_option linter.unusedVariables false
set_option linter.unusedSimpArgs false
set_option maxRecDepth 100000
set_option maxHeartbeats 4000000
namespace Go.Proofs.YtgfjlflbhipliaaGreatDoor
open Go.RowKit Go.Shelf
theorem first_c (A : Option Addr) (n c : Nat) (xs : List LawR) (a : Int) (ha0 : 0 ≤ a) (ha1 : a ≤ 255) (A' : Option Addr) (n' c' : Nat) (wss : List (List Snd)) (w : World) (hx : IsLaws w A n c xs) (hw : IsWords w A' n' c' wss) (hT : TabOK w) :
  Calls Tryz.prog 6 #[.slice A n c, .int .u8 a, .slice A' n' c'] w (RetTrue w) := by
 have hmx := hx.max
 have hmw := hw.max
 have HX := hI hx; clear hx
 have HW := hI hw; clear hw
 have HT := hI hT; clear hT
 have HLN : Hid ((lawsD xs).length = n) := by show (lawsD xs).length = n; rw [lawsD, List.length_map]; exact HX.out.len
 go_enter Tryz.func6, Tryz.ntmps6
 go_wp2_with fail
 refine (few_c A n c xs 6 A' n' c' wss w HX.out HW.out).mono ?_
 rintro e w1 ⟨⟨b1, rfl, hb1⟩, hB1⟩
 have HB1 := hI hB1; clear hB1
 cases b1
 ·clear hb1
  go_wp2_with fail
  refine (works12_c _ (HT.out.below HB1.out rr)).mono ?_
  rintro e w2 ⟨rfl, hbw⟩
  go_wp2
  go_ret
  exact ⟨rfl, Below.trans HB1.out (hbw.mono (Below.size HB1.out))⟩
 obtain ⟨hn6, hn12⟩ := hb1 rfl
 clear hb1
 by_cases h2 : n < 2
 ·have h2' : (n : Int) < 2 := by omega
  go_wp2_with fail
  refine (works12_c _ (HT.out.below HB1.out rr)).mono ?_
  rintro e w2 ⟨rfl, hbw⟩
  go_wp2
  go_ret
  exact ⟨rfl, Below.trans HB1.out (hbw.mono (Below.size HB1.out))⟩
 have h2' : ¬ (n : Int) < 2 := by omega
 have hwn : IntKind.i64.wrap ((n : Int) - 1) = (n : Int) - 1 := IntWalk.i64_in _ (by omega)
 have hpos : (0 : Int) < (n : Int) - 1 := by omega
 obtain ⟨k, hk⟩ : ∃ k : Nat, a % ((n : Int) - 1) = k := ⟨(a % ((n : Int) - 1)).toNat, by have := Int.emod_nonneg a (b := (n : Int) - 1) (by omega); omega⟩
 have hkn : k + 1 < n := by have := Int.emod_lt_of_pos a (b := (n : Int) - 1) hpos; omega
 obtain ⟨s1, hs1⟩ := HX.out.get (show k < n by omega)
 obtain ⟨s2, hs2⟩ := HX.out.get hkn
 obtain ⟨b, off, hA, hbb, hg1⟩ := HX.out.at_ hs1
 obtain ⟨b2, off2, hA2, _, hg2⟩ := HX.out.at_ hs2
 subst hA
 obtain ⟨rfl, rfl⟩ : b = b2 ∧ off = off2 := by simpa using hA2
 clear hA2
 have HEX := hI (exch_of hs1 hs2)
 have HS1 := hI hs1; clear hs1
 have HS2 := hI hs2; clear hs2
 have HG1 := hI hg1; clear hg1
 have HG2 := hI hg2; clear hg2
 go_wp2_with fail
 simp only [hk]
 clear hk hpos hwn
 refine (matters_c (some ⟨b, off, none⟩) n c xs k A' n' c' wss w1 (HX.out.below HB1.out rr) (HW.out.below HB1.out rr) (HT.out.below HB1.out rr)).mono ?_
 rintro e w2 ⟨rfl, hb⟩
 have HB2 := hI (HB1.out.trans (hb.mono HB1.out.size)); clear hb HB1
 by_cases hc : chkM (lawsD xs) wss = 0
 case neg =>
  rw [mat_chk hc]
  have h3 : (chkM (lawsD xs) wss != 0) = true := by simpa using hc
  clear hc
  go_wp2_with fail
  refine (works12_c _ (HT.out.below HB2.out rr)).mono ?_
  rintro e w3 ⟨rfl, hbw⟩
  go_wp2
  go_ret
  exact ⟨rfl, Below.trans HB2.out (hbw.mono (Below.size HB2.out))⟩
 have HLE : Hid (lawsE (lawsD xs) = 0) := chk_laws hc
 have HALL := hI (chk_all hc).2
 have hi1 : (k : Int) < (n : Int) := by omega
 have hi2 : (k : Int) + 1 < (n : Int) := by omega
 have hiw : IntKind.i64.wrap ((k : Int) + 1) = (k : Int) + 1 := IntWalk.i64_in _ (by omega)
 have hi0 : (0 : Int) ≤ (k : Int) + 1 := by omega
 have hin : ((k : Int) + 1).toNat = k + 1 := by omega
 obtain ⟨r, hr⟩ : ∃ r, r = matM (lawsD xs) k wss := ⟨_, rfl⟩
 have hcs := mat_cases (i := k) hc (by rw [HLN.out]; exact hkn)
 rw [← hr] at hcs ⊢
 clear hr hc
 by_cases h0 : r.2.2 = 0
 case neg =>
  have h3 : (r.2.2 != 0) = true := by simpa using h0
  rcases hcs with ⟨rfl, _⟩ | ⟨_, _, k2, rfl, _⟩ | ⟨_, _, rfl, _⟩
  ·clear h0
   go_wp2_with fail
   refine (works12_c _ (HT.out.below HB2.out rr)).mono ?_
   rintro e w3 ⟨rfl, hbw⟩
   go_wp2
   go_ret
   exact ⟨rfl, Below.trans HB2.out (hbw.mono (Below.size HB2.out))⟩
  ·exact absurd rfl h0
  ·exact absurd rfl h0
 have h3 : (r.2.2 != 0) = false := by simpa using h0
 have HCS := hI hcs; clear hcs
 have H0 := hI h0; clear h0
 go_wp2_with (at_builtin; refine append_laws rfl (.tmp 53) (.tmp 54) rfl w2.heap.size _ 0 [] rfl (World.ownsRow_made w2 #[] 0 rr (by simp [maxLen]) rfl) (some ⟨b, off, none⟩) n c xs rfl ((HX.out.below (HB2.out.alloc HB2.out.size _) rr).1) (by omega) (by simp) ?hc)
 case hc =>
  intro v3 w3 hown3 hg3 _
  have hB3 : Below w.heap.size w w3 := own_below (HB2.out.alloc HB2.out.size _) (World.ownsRow_made (e := 43) (size := 18) w2 #[] 0 rr (by simp [maxLen]) rfl) hg3 HB2.out.size (by have := HB2.out.size; simp; omega)
  have hown3' : w3.ownsRow w2.heap.size 43 18 v3 n (xs.flatMap LawR.cells) := by simpa using hown3
  obtain ⟨g, c2, rfl, hg, hgl⟩ := own_block hown3' (by omega)
  have HO3 := hI hown3'
  have hrec := Recs.of_own hown3' LawR.len (by decide)
  have hnc := hrec.1.2.1
  have hcm := hrec.1.2.2.1
  unfold maxLen at hcm
  have HB3 := hI hB3
  have hz2 := HB2.out.size
  clear hown3 hg3 hB3 hown3' hrec
  have HR2 := hI (range_below HG2.out HB3.out hbb)
  go_wp2_with (first | (refine load_lawM rfl (.tmp 61) rfl b (off + (k + 1) * 18) s2 rfl HR2.out ?_) | (refine store_law_at rfl (.tmp 63) (.tmp 62) rfl HO3.out (k := k) (by omega) s2 rfl rfl ?hs1))
  case hs1 =>
   intro w4 hown4 hB4 _
   have HO4 := hI hown4
   have HB4 := hI (hB4 w.heap.size w (by omega) HB3.out)
   clear hown4 hB4 HO3
   have HR1 := hI (range_below HG1.out HB4.out hbb)
   go_wp2_with (first | (refine load_lawM rfl (.tmp 69) rfl b (off + k * 18) s1 rfl HR1.out ?_) | (refine store_law_at rfl (.tmp 71) (.tmp 70) rfl HO4.out (k := k + 1) (by omega) s1 rfl rfl ?hs2))
   case hs2 =>
    intro w5 hown5 hB5 _
    have HB5 := hI (hB5 w.heap.size w (by omega) HB4.out)
    have HLO : Hid (IsLaws w5 (some ⟨g, 0, none⟩) n c2 (exch xs k)) := by
     show IsLaws _ _ _ _ _
     rw [HEX.out]
     exact ⟨Recs.of_own hown5 LawR.len (by decide), fun s hs => (HX.out.2 s (by rw [← HEX.out] at hs; exact exch_mem hs)).below HB5.out rr⟩
    clear hown5 hB5 HO4 HB4 HB3 HR1 HR2
    rcases HCS.out with ⟨rfl, _⟩ | ⟨hok, hok2, k2, rfl, hk2, hdf, hsm⟩ | ⟨hok, hok2, rfl, heq⟩
    ·exact absurd H0.out (by decide)
    ·have HOK := hI hok; clear hok
     have HOK2 := hI hok2; clear hok2
     have HDF := hI hdf; clear hdf
     have HSM := hI hsm; clear hsm
     rw [HW.out.len] at hk2
     have e1 : ¬ ((k2 : Int) < 0) := by omega
     have e2 : ¬ ((n' : Int) ≤ (k2 : Int)) := by omega
     clear HCS H0 h3
     go_wp2_with fail
     go_loopw [12] (fun i wr => ∃ j : Nat, i = .int .i64 j ∧ j ≤ n' ∧ Hid (IsLaws wr (some ⟨g, 0, none⟩) n c2 (exch xs k)) ∧ Below w.heap.size w wr) (fun i _ => n' - (intOf i).toNat)
     case atStart => exact ⟨0, rfl, Nat.zero_le _, HLO.out, HB5.out⟩
     case round =>
      obtain ⟨j, rfl, hj, hlo, hB⟩ := hrel
      have hBs := hB.size
      by_cases hlt : j < n'
      ·have hj1 : (j : Int) < (n' : Int) := by omega
       obtain ⟨b', off', A1, n1, c1, x, rfl, hbl, hcell, hxk, hwx⟩ := (HW.out.below hB rr).at_ hlt
       have hmem := List.mem_of_getElem? hxk
       have hd1 := derive_ok HLE.out (HALL.out x hmem)
       rw [if_neg (by simpa using HOK.out x hmem)] at hd1
       have hd2 := derive_ok (exch_E (i := k) HLE.out) (HALL.out x hmem)
       rw [if_neg (by simpa using HOK2.out x hmem)] at hd2
       rw [exch_map] at hd2
       obtain ⟨y1, hy1⟩ : ∃ y, y = (endM (lawsD xs) x).2 := ⟨_, rfl⟩
       obtain ⟨y2, hy2⟩ : ∃ y, y = (endM (lawsD (exch xs k)) x).2 := ⟨_, rfl⟩
       rw [← hy1] at hd1
       rw [← hy2] at hd2
       have HD1 := hI hd1
       have HD2 := hI hd2
       have HG1 : Hid ((endsL (lawsD xs) wss).getD j [] = y1) := by show _ = _; rw [hy1]; exact getD_of (by unfold endsL; rw [List.getElem?_map, hxk]; rfl)
       have HG2 : Hid ((endsL (exch (lawsD xs) k) wss).getD j [] = y2) := by show _ = _; rw [hy2, exch_map]; exact getD_of (by unfold endsL; rw [List.getElem?_map, hxk]; rfl)
       have HWX := hI hwx
       clear hwx hxk hmem hd1 hd2 hy1 hy2
       go_wp2_with fail
       refine (derive_c (some ⟨b, off, none⟩) n c xs A1 n1 c1 x wr (HX.out.below hB rr) HWX.out (HT.out.below hB rr)).mono ?_
       rw [HD1.out]
       rintro e w5 ⟨A5, n5, c5, rfl, hw5, hb5, _⟩
       have hB5 := hB.trans (hb5.mono hBs)
       have hcell5 := (hb5.cell (p := ⟨b', off' + j, none⟩) hbl).trans hcell
       have HW5 := hI hw5
       have HWX5 := hI (HWX.out.below hb5 rr)
       have HLO5 := hI (hlo.out.below hb5 rr)
       have hbl5 : b' < w5.heap.size := Nat.lt_of_lt_of_le hbl hb5.size
       clear hw5 hb5 hcell
       go_wp2_with fail
       refine (derive_c (some ⟨g, 0, none⟩) n c2 (exch xs k) A1 n1 c1 x w5 HLO5.out HWX5.out (HT.out.below hB5 rr)).mono ?_
       rw [HD2.out]
       rintro e w6 ⟨A6, n6, c6, rfl, hw6, hb6, _⟩
       have hB6 := hB5.trans (hb6.mono hB5.size)
       have HW5' := hI (HW5.out.below hb6 rr); clear HW5
       have HW6 := hI hw6
       have HLO6 := hI (HLO5.out.below hb6 rr)
       clear hw6 hb6 hcell5
       go_wp2_with fail
       refine (wEqual_c A5 A6 n5 n6 c5 c6 y1 y2 w6 HW5'.out HW6.out).mono ?_
       rintro e w7 ⟨rfl, hb7⟩
       have hB7 := hB6.trans (hb7.mono hB6.size)
       have HLO7 := hI (HLO6.out.below hb7 rr)
       clear hb7
       rcases Nat.lt_trichotomy j k2 with h | h | h
       ·have hyy : decide (y1 = y2) = true := decide_eq_true (by rw [← HG1.out, ← HG2.out]; exact HSM.out j h)
        rw [hyy]
        have q1 : (j : Int) < (k2 : Int) := by omega
        have q2 : ((j : Int) == (k2 : Int)) = false := by simp; omega
        clear h hyy
        go_wp2
        go_roundw
        case rel => exact ⟨j + 1, by go_num, by omega, HLO7.out, hB7⟩
        case measure => simp [intOf]; omega
       ·subst h
        have hyy : decide (y1 = y2) = false := decide_eq_false (by rw [← HG1.out, ← HG2.out]; exact HDF.out)
        rw [hyy]
        clear hyy
        go_wp2
        go_roundw
        case rel => exact ⟨j + 1, by go_num, by omega, HLO7.out, hB7⟩
        case measure => simp [intOf]; omega
       ·have q1 : ¬ ((j : Int) < (k2 : Int)) := by omega
        have q2 : ((j : Int) == (k2 : Int)) = false := by simp; omega
        clear h
        go_wp2
        go_roundw
        case rel => exact ⟨j + 1, by go_num, by omega, HLO7.out, hB7⟩
        case measure => simp [intOf]; omega
      ·obtain rfl : j = n' := by omega
       have HBX := hI hB
       go_wp2_with fail
       refine (works12_c _ (HT.out.below HBX.out rr)).mono ?_
       rintro e w9 ⟨rfl, hbw⟩
       go_wp2
       go_ret
       exact ⟨rfl, Below.trans HBX.out (hbw.mono (Below.size HBX.out))⟩
    ·have HOK := hI hok; clear hok
     have HOK2 := hI hok2; clear hok2
     have HEQ := hI heq; clear heq
     clear HCS H0 h3
     go_wp2_with fail
     go_loopw [12] (fun i wr => ∃ j : Nat, i = .int .i64 j ∧ j ≤ n' ∧ Hid (IsLaws wr (some ⟨g, 0, none⟩) n c2 (exch xs k)) ∧ Below w.heap.size w wr) (fun i _ => n' - (intOf i).toNat)
     case atStart => exact ⟨0, rfl, Nat.zero_le _, HLO.out, HB5.out⟩
     case round =>
      obtain ⟨j, rfl, hj, hlo, hB⟩ := hrel
      have hBs := hB.size
      by_cases hlt : j < n'
      ·have hj1 : (j : Int) < (n' : Int) := by omega
       obtain ⟨b', off', A1, n1, c1, x, rfl, hbl, hcell, hxk, hwx⟩ := (HW.out.below hB rr).at_ hlt
       have hmem := List.mem_of_getElem? hxk
       have hd1 := derive_ok HLE.out (HALL.out x hmem)
       rw [if_neg (by simpa using HOK.out x hmem)] at hd1
       have hd2 := derive_ok (exch_E (i := k) HLE.out) (HALL.out x hmem)
       rw [if_neg (by simpa using HOK2.out x hmem)] at hd2
       rw [exch_map] at hd2
       obtain ⟨y1, hy1⟩ : ∃ y, y = (endM (lawsD xs) x).2 := ⟨_, rfl⟩
       obtain ⟨y2, hy2⟩ : ∃ y, y = (endM (lawsD (exch xs k)) x).2 := ⟨_, rfl⟩
       rw [← hy1] at hd1
       rw [← hy2] at hd2
       have HD1 := hI hd1
       have HD2 := hI hd2
       have HG1 : Hid ((endsL (lawsD xs) wss).getD j [] = y1) := by show _ = _; rw [hy1]; exact getD_of (by unfold endsL; rw [List.getElem?_map, hxk]; rfl)
       have HG2 : Hid ((endsL (exch (lawsD xs) k) wss).getD j [] = y2) := by show _ = _; rw [hy2, exch_map]; exact getD_of (by unfold endsL; rw [List.getElem?_map, hxk]; rfl)
       have HWX := hI hwx
       clear hwx hxk hmem hd1 hd2 hy1 hy2
       go_wp2_with fail
       refine (derive_c (some ⟨b, off, none⟩) n c xs A1 n1 c1 x wr (HX.out.below hB rr) HWX.out (HT.out.below hB rr)).mono ?_
       rw [HD1.out]
       rintro e w5 ⟨A5, n5, c5, rfl, hw5, hb5, _⟩
       have hB5 := hB.trans (hb5.mono hBs)
       have hcell5 := (hb5.cell (p := ⟨b', off' + j, none⟩) hbl).trans hcell
       have HW5 := hI hw5
       have HWX5 := hI (HWX.out.below hb5 rr)
       have HLO5 := hI (hlo.out.below hb5 rr)
       have hbl5 : b' < w5.heap.size := Nat.lt_of_lt_of_le hbl hb5.size
       clear hw5 hb5 hcell
       go_wp2_with fail
       refine (derive_c (some ⟨g, 0, none⟩) n c2 (exch xs k) A1 n1 c1 x w5 HLO5.out HWX5.out (HT.out.below hB5 rr)).mono ?_
       rw [HD2.out]
       rintro e w6 ⟨A6, n6, c6, rfl, hw6, hb6, _⟩
       have hB6 := hB5.trans (hb6.mono hB5.size)
       have HW5' := hI (HW5.out.below hb6 rr); clear HW5
       have HW6 := hI hw6
       have HLO6 := hI (HLO5.out.below hb6 rr)
       clear hw6 hb6 hcell5
       go_wp2_with fail
       refine (wEqual_c A5 A6 n5 n6 c5 c6 y1 y2 w6 HW5'.out HW6.out).mono ?_
       rintro e w7 ⟨rfl, hb7⟩
       have hB7 := hB6.trans (hb7.mono hB6.size)
       have HLO7 := hI (HLO6.out.below hb7 rr)
       clear hb7
       have hyy : decide (y1 = y2) = true := decide_eq_true (by rw [← HG1.out, ← HG2.out, HEQ.out])
       rw [hyy]
       clear hyy
       go_wp2
       go_roundw
       case rel => exact ⟨j + 1, by go_num, by omega, HLO7.out, hB7⟩
       case measure => simp [intOf]; omega
      ·obtain rfl : j = n' := by omega
       have HBX := hI hB
       go_wp2_with fail
       refine (works12_c _ (HT.out.below HBX.out rr)).mono ?_
       rintro e w9 ⟨rfl, hbw⟩
       go_wp2
       go_ret
       exact ⟨rfl, Below.trans HBX.out (hbw.mono (Below.size HBX.out))⟩
end Go.Proofs.YtgfjlflbhipliaaGreatDoor

/-
  ablautref12: check, Moved.
-/
import Derived.Test.YtgfjlflbhipliaaGreatDoorG30
import Derived.Test.YtgfjlflbhipliaaGreatDoorG42
import Derived.Test.YtgfjlflbhipliaaGreatDoorXWoL
import Derived.Test.YtgfjlflbhipliaaGreatDoorG40
import Derived.Test.YtgfjlflbhipliaaGreatDoorG34
set_option linter.unusedVariables false
set_option linter.unusedSimpArgs false
set_option maxRecDepth 100000
set_option maxHeartbeats 4000000
namespace Go.Proofs.YtgfjlflbhipliaaGreatDoor
open Go.RowKit Go.Shelf
theorem r12check_c (A : Option Addr) (n c : Nat) (xs : List LawR) (A' : Option Addr) (n' c' : Nat) (wss : List (List Snd)) (w : World) (hx : IsLaws w A n c xs) (hw : IsWords w A' n' c' wss) (hu : LawsU xs) (hwu : ∀ x ∈ wss, WordU x) :
  Calls Tryz.prog 49 #[.slice A n c, .slice A' n' c'] w fun e w' => e = .returned (.int .i64 (chkM (lawsD xs) wss)) ∧ Below w.heap.size w w' := by
 have hm := hw.max
 have HL : Hid (wss.length = n') := hw.len
 have HX := hI hx; clear hx
 have HW := hI hw; clear hw
 have HU := hI hu; clear hu
 have HWU := hI hwu; clear hwu
 obtain ⟨ea, hea⟩ : ∃ ea, ea = lawsE (lawsD xs) := ⟨_, rfl⟩
 have HEA := hI hea
 go_enter Tryz.func49, Tryz.ntmps49
 go_wp2_with fail
 refine (r10Check_c A n c xs w HX.out HU.out).mono ?_
 rintro e w1 ⟨rfl, hB1⟩
 rw [← hea]
 clear hea
 by_cases h0 : ea = 0
 case neg =>
  have h1 : (ea != 0) = true := by simpa using h0
  have HM : Hid (chkM (lawsD xs) wss = ea) := by show chkM _ _ = _; unfold chkM; rw [← HEA.out, if_pos h0]
  clear h0
  go_wp2
  go_ret
  exact ⟨by rw [HM.out]; rfl, hB1⟩
 have h1 : (ea != 0) = false := by simpa using h0
 have hM : chkM (lawsD xs) wss = if 256 < wss.length then 12 else firstE wss := by unfold chkM; rw [← HEA.out, if_neg (by simpa using h0)]
 clear h0
 by_cases h256 : 256 < n'
 ·have HM : Hid (chkM (lawsD xs) wss = 12) := by show _ = _; rw [hM, if_pos (by rw [HL.out]; exact h256)]
  clear hM
  go_wp2
  go_ret
  exact ⟨by rw [HM.out]; rfl, hB1⟩
 ·have HR : Hid (chkM (lawsD xs) wss = firstE wss) := by show _ = _; rw [hM, if_neg (by rw [HL.out]; exact h256)]
  clear hM
  go_wp2_with fail
  go_loopw [6] (fun i wr => ∃ k : Nat, k ≤ n' ∧ i = .int .i64 k ∧ Hid ((wss.take k).all (fun x => wcheck x == 0) = true) ∧ Below w.heap.size w wr) (fun i _ => n' - (intOf i).toNat)
  case atStart => exact ⟨0, Nat.zero_le _, rfl, rfl, hB1⟩
  case round =>
   obtain ⟨k, hk, rfl, hall, hB⟩ := hrel
   have hBs := hB.size
   by_cases hlt : k < n'
   ·obtain ⟨b, off, A2, n2, c2, x, rfl, hbl, hcell, hxk, hwx⟩ := (HW.out.below hB rr).at_ hlt
    have hlt' : (k : Int) < (n' : Int) := by omega
    have HXU : Hid (WordU x) := HWU.out x (List.mem_of_getElem? hxk)
    have HXK := hI hxk
    have HS := hI (take_snoc' wss k x hxk)
    have HWX := hI hwx; clear hwx hxk
    go_wp2_with fail
    refine (r2Check_c A2 n2 c2 x wr HWX.out HXU.out).mono ?_
    rintro e w5 ⟨rfl, hb5⟩
    have hB5 := hB.trans (hb5.mono hBs)
    clear hb5 hcell
    by_cases hv : wcheck x = 0
    ·have hv' : (wcheck x != 0) = false := by simpa using hv
     have HG : Hid ((wss.take (k + 1)).all (fun x => wcheck x == 0) = true) := by show _ = _; rw [HS.out, List.all_append, hall.out]; simp [hv]
     clear hv
     go_wp2
     go_roundw
     case rel => exact ⟨k + 1, by omega, by go_num, HG, hB5⟩
     case measure => simp [intOf]; omega
    ·have hv' : (wcheck x != 0) = true := by simpa using hv
     have HF : Hid (chkM (lawsD xs) wss = wcheck x) := by show _ = _; rw [HR.out]; exact firstE_snoc HXK.out hall.out hv
     clear hv
     go_wp2
     go_ret
     exact ⟨by rw [HF.out]; rfl, hB5⟩
   ·obtain rfl : k = n' := by omega
    have HF : Hid (chkM (lawsD xs) wss = 0) := by
     show _ = _
     have := hall.out
     rw [List.take_of_length_le (by rw [HL.out]; exact rr)] at this
     rw [HR.out]; exact firstE_none this
    go_wp2
    go_ret
    exact ⟨by rw [HF.out]; rfl, hB⟩
theorem built_rec (w : World) (s : LawR) : Recs LawR.cells 18 (w.alloc (.cells (s.cells).toArray 43)) (some ⟨w.heap.size, 0, none⟩) 1 1 [s] :=
 ⟨⟨by simp [LawR.len], rr, by unfold maxLen; omega, (fun h => by cases h), fun _ => ⟨w.heap.size, 0, rfl, by simp, fun j v hv => by rw [Nat.zero_add]; exact cell_new_at (by simpa using hv)⟩⟩, rfl⟩
theorem r12Moved_c (A : Option Addr) (n c : Nat) (xs : List LawR) (i p : Nat) (w : World) (hx : IsLaws w A n c xs) (hn : n ≤ 4000) (hi : i < n) (hp : p < n) :
  Calls Tryz.prog 51 #[.slice A n c, .int .i64 i, .int .i64 p] w (RetLaws w (moved xs i p)) := by
 have hmx := hx.max
 have hlen := hx.len
 have HX := hI hx; clear hx
 have HLEN := hI hlen; clear hlen
 obtain ⟨s0, hs0⟩ := HX.out.get hi
 obtain ⟨b0, off0, hA0, hb0, hg0⟩ := HX.out.at_ hs0
 subst hA0
 have HS0 := hI hs0; clear hs0
 have HG0 := hI hg0; clear hg0
 go_enter Tryz.func51, Tryz.ntmps51
 go_wp2
 go_loopw [7, 8] (fun v k wr => ∃ j q : Nat, k = .int .i64 j ∧ j ≤ n ∧ q ≤ j ∧ Hid (wr.ownsRow w.heap.size 43 18 v q ((woAt xs i j).flatMap LawR.cells)) ∧ Below w.heap.size w wr) (fun _ k _ => n - (intOf k).toNat)
 case atStart => exact ⟨0, 0, rfl, Nat.zero_le _, rr, (by show World.ownsRow _ _ _ _ _ _ _; unfold woAt; simpa using World.ownsRow_nil _ _ _ _), Below.refl _ _⟩
 case round =>
  obtain ⟨j, q, rfl, hj, hq, hown, hB⟩ := hrel
  have hBs := hB.size
  obtain ⟨A7, c7, rfl⟩ := own_form hown.out
  by_cases hlt : j < n
  ·obtain ⟨s, hsk⟩ := HX.out.get hlt
   obtain ⟨b, off, hA, hbl, hrg⟩ := (HX.out.below hB rr).at_ hsk
   obtain ⟨rfl, rfl⟩ : b0 = b ∧ off0 = off := by simpa using hA
   have hlt' : (j : Int) < (n : Int) := by omega
   have HRG := hI hrg; clear hrg hA
   by_cases hjk : j = i
   ·subst hjk
    have h1 : ((j : Int) != (j : Int)) = false := by simp
    have HW := hI (woAt_same (xs := xs) (k := j))
    clear hsk
    go_wp2
    go_roundw
    case rel => exact ⟨j + 1, q, by go_num, by omega, by omega, (by show World.ownsRow _ _ _ _ _ _ _; rw [HW.out]; exact hown.out), hB⟩
    case measure => simp [intOf]; omega
   ·have h1 : ((j : Int) != (i : Int)) = true := by simp; omega
    have HW := hI (woAt_step (xs := xs) (k := i) hsk hjk)
    clear hsk hjk
    have HOWN2 : Hid ((wr.alloc (.cells (s.cells).toArray 43)).ownsRow w.heap.size 43 18 (.slice A7 q c7) q ((woAt xs i j).flatMap LawR.cells)) := hown.out.alloc _
    have HREC := hI (built_rec wr s)
    go_wp2_with (first | (refine load_lawM rfl (.tmp 22) rfl b0 (off0 + j * 18) s rfl HRG.out ?_) | (refine build_law1 rfl (.tmp 23) rfl s rfl ?_) | (at_builtin; refine append_laws rfl (.tmp 19) (.tmp 24) rfl w.heap.size (.slice A7 q c7) q (woAt xs i j) rfl HOWN2.out (some ⟨wr.heap.size, 0, none⟩) 1 1 [s] rfl HREC.out (by omega) (by simp; omega) ?_; intro v' w9 hown9 hg9 _))
    have hB9 : Below w.heap.size w w9 := (hB.alloc hBs _).grown hg9 (by simp; omega) (fun p hp => (HOWN2.out.lt _ hp).1)
    go_roundw
    case rel => exact ⟨j + 1, q + 1, by go_num, by omega, by omega, (by show World.ownsRow _ _ _ _ _ _ _; rw [HW.out]; first | exact hown9 | (rw [List.flatMap_append, List.flatMap_singleton]; exact hown9)), hB9⟩
    case measure => simp [intOf]; omega
  ·obtain rfl : n = j := by omega
   have hown' := hown.out
   rw [woAt_full HLEN.out (by omega)] at hown'
   obtain ⟨rs, hrs⟩ : ∃ rs, rs = xs.take i ++ xs.drop (i + 1) := ⟨_, rfl⟩
   rw [← hrs] at hown'
   have hrl : rs.length + 1 = n := by rw [hrs, ← HLEN.out]; exact rest_len (by rw [HLEN.out]; exact hi)
   have hrec := Recs.of_own hown' LawR.len (by decide)
   have hq1 : q + 1 = n := by have := hrec.2; omega
   have hqc := hrec.1.2.1
   have hcm := hrec.1.2.2.1
   unfold maxLen at hcm
   have HREC := hI hrec; clear hrec hown' hrl
   obtain ⟨s, hss⟩ : ∃ s, s = s0 := ⟨_, rfl⟩
   have HMV : Hid (moved xs i p = rs.take p ++ [s] ++ rs.drop p) := by
    show _ = _
    obtain ⟨h1, h2⟩ := List.getElem?_eq_some_iff.1 HS0.out
    unfold moved
    rw [← hrs, List.drop_eq_getElem_cons h1, h2, hss, List.append_assoc]; rfl
   obtain ⟨w3, hw3⟩ : ∃ w3, w3 = wr := ⟨_, rfl⟩
   subst hw3
   have HB3 := hI hB
   have hp0 : (0 : Int) ≤ (p : Int) := by omega
   have hpc : (p : Int) ≤ (c7 : Int) := by omega
   have hpq : (p : Int) ≤ (q : Int) := by omega
   have hk0 : Below w3.heap.size w3 (w3.alloc (.cells #[] 43)) := (Below.refl _ _).alloc rr _
   have HT1 : Hid (Recs LawR.cells 18 (w3.alloc (.cells #[] 43)) A7 p c7 (rs.take p)) := (HREC.out.take LawR.len (by omega)).below hk0 rr
   clear hrs hown
   go_wp2_with (at_builtin; refine append_laws rfl (.tmp 26) (.tmp 29) rfl w3.heap.size _ 0 [] rfl (World.ownsRow_made w3 #[] 0 rr (by simp [maxLen]) rfl) A7 p c7 (rs.take p) rfl HT1.out (by omega) (by simp) ?hc1)
   case hc1 =>
    intro v8 w8 hown8 hg8 _
    have HBK8 : Hid (Below w3.heap.size w3 w8) := own_below hk0 (World.ownsRow_made (e := 43) (size := 18) w3 #[] 0 rr (by simp [maxLen]) rfl) hg8 rr (by simp)
    have hown8' : w8.ownsRow w3.heap.size 43 18 v8 p ((rs.take p).flatMap LawR.cells) := by simpa using hown8
    obtain ⟨A8, c8, rfl⟩ := own_form hown8'
    have hz8 := HBK8.out.size
    have HO8 : Hid ((w8.alloc (.cells (s.cells).toArray 43)).ownsRow w3.heap.size 43 18 (.slice A8 p c8) p ((rs.take p).flatMap LawR.cells)) := hown8'.alloc _
    have HRC8 := hI (built_rec w8 s)
    have HRG : Hid (w8.rangeAt b0 (off0 + i * 18) s.cells) := by show World.rangeAt _ _ _ _; rw [hss]; exact range_below HG0.out (HB3.out.trans (HBK8.out.mono HB3.out.size)) hb0
    clear hown8 hg8 hown8' hk0 HT1 hss
    go_wp2_with (first | (refine load_lawM rfl (.tmp 34) rfl b0 (off0 + i * 18) s rfl HRG.out ?_) | (refine build_law1 rfl (.tmp 35) rfl s rfl ?_) | (at_builtin; refine append_laws rfl (.tmp 31) (.tmp 36) rfl w3.heap.size (.slice A8 p c8) p (rs.take p) rfl HO8.out (some ⟨w8.heap.size, 0, none⟩) 1 1 [s] rfl HRC8.out (by omega) (by simp; omega) ?hc2))
    case hc2 =>
     intro v9 w9 hown9 hg9 _
     have HBK9 : Hid (Below w3.heap.size w3 w9) := (HBK8.out.alloc HBK8.out.size _).grown hg9 (by simp; omega) (fun j hj => (HO8.out.lt _ hj).1)
     have hown9' : w9.ownsRow w3.heap.size 43 18 v9 (p + 1) ((rs.take p ++ [s]).flatMap LawR.cells) := by first | exact hown9 | (rw [List.flatMap_append, List.flatMap_singleton]; exact hown9)
     obtain ⟨A9, c9, rfl⟩ := own_form hown9'
     have HO9 := hI hown9'
     have hz9 := HBK9.out.size
     clear hown9 hg9 hown9' HO8 HRC8 HRG
     have hd9 := (HREC.out.drop LawR.len (show p ≤ q by omega)).below HBK9.out rr
     by_cases hcp : c7 = p
     ·subst hcp
      rw [if_pos rfl, show q - c7 = 0 by omega, Nat.sub_self] at hd9
      have HD9 := hI hd9; clear hd9
      go_wp2_with (at_builtin; refine append_laws rfl (.tmp 38) (.tmp 41) rfl w3.heap.size (.slice A9 (c7 + 1) c9) (c7 + 1) ((rs.take c7) ++ [s]) rfl HO9.out (A7) 0 0 (rs.drop c7) rfl HD9.out (by omega) (by omega) ?hc3)
      case hc3 =>
       intro v' w12 hown12 hg12 _
       have hB12 : Below w3.heap.size w3 w12 := HBK9.out.grown hg12 (by have := HBK9.out.size; omega) (fun j hj => (HO9.out.lt _ hj).1)
       have HM12 : Hid (w12.ownsRow w3.heap.size 43 18 v' n ((moved xs i c7).flatMap LawR.cells)) := by
        show World.ownsRow _ _ _ _ _ _ _
        rw [HMV.out]
        rw [show c7 + 1 + 0 = n by omega] at hown12
        first | exact hown12 | (rw [List.flatMap_append, List.flatMap_append, List.flatMap_singleton, List.append_assoc]; exact hown12)
       clear hown12 hg12
       go_wp2
       go_ret
       exact RetLaws.of_own rfl HM12.out (fun z hz => (HX.out.2 z (moved_mem hz)).below (HB3.out.trans (hB12.mono HB3.out.size)) rr) (HB3.out.trans (hB12.mono HB3.out.size)) HB3.out.size
     ·rw [if_neg hcp] at hd9
      have HD9 := hI hd9; clear hd9
      go_wp2_with (at_builtin; refine append_laws rfl (.tmp 38) (.tmp 41) rfl w3.heap.size (.slice A9 (p + 1) c9) (p + 1) ((rs.take p) ++ [s]) rfl HO9.out (A7.map (·.add (p * 18))) (q - p) (c7 - p) (rs.drop p) rfl HD9.out (by omega) (by omega) ?hc3)
      case hc3 =>
       intro v' w12 hown12 hg12 _
       have hB12 : Below w3.heap.size w3 w12 := HBK9.out.grown hg12 (by have := HBK9.out.size; omega) (fun j hj => (HO9.out.lt _ hj).1)
       have HM12 : Hid (w12.ownsRow w3.heap.size 43 18 v' n ((moved xs i p).flatMap LawR.cells)) := by
        show World.ownsRow _ _ _ _ _ _ _
        rw [HMV.out]
        rw [show p + 1 + (q - p) = n by omega] at hown12
        first | exact hown12 | (rw [List.flatMap_append, List.flatMap_append, List.flatMap_singleton, List.append_assoc]; exact hown12)
       clear hown12 hg12
       go_wp2
       go_ret
       exact RetLaws.of_own rfl HM12.out (fun z hz => (HX.out.2 z (moved_mem hz)).below (HB3.out.trans (hB12.mono HB3.out.size)) rr) (HB3.out.trans (hB12.mono HB3.out.size)) HB3.out.size
end Go.Proofs.YtgfjlflbhipliaaGreatDoor

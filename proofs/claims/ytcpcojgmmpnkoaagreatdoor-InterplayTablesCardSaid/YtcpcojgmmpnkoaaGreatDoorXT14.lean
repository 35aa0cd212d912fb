/-
  ablautlaw12.InterplayTables is true.
-/
import Derived.Test.YtcpcojgmmpnkoaaGreatDoorG45
import Derived.Test.YtcpcojgmmpnkoaaGreatDoorXInts12
import Derived.Test.YtcpcojgmmpnkoaaGreatDoorG49
set_option linter.unusedVariables false
set_option linter.unusedSimpArgs false
set_option maxRecDepth 100000
set_option maxHeartbeats 4000000
namespace Go.Proofs.YtcpcojgmmpnkoaaGreatDoor
open Go.RowKit Go.Shelf
theorem interTables_c (A : Option Addr) (n c : Nat) (xs : List LawR) (A' : Option Addr) (n' c' : Nat) (wss : List (List Snd)) (w : World) (hx : IsLaws w A n c xs ∧ LawsU xs) (hw : IsWords w A' n' c' wss ∧ ∀ x ∈ wss, WordU x) (hT : TabOK w) :
  Calls Tryz.prog 5 #[.slice A n c, .slice A' n' c'] w (RetTrue w) := by
 have hmx := hx.1.max
 have hmw := hw.1.max
 have hnm : n ≤ maxLen := by unfold maxLen; omega
 have HX := hI hx.1
 have HU := hI hx.2
 have HW := hI hw.1
 have HWU := hI hw.2
 have HT := hI hT
 clear hx hw hT
 go_enter Tryz.func5, Tryz.ntmps5
 go_wp2_with fail
 refine (few_c A n c xs 5 A' n' c' wss w HX.out HW.out).mono ?_
 rintro e w1 ⟨⟨b, rfl, _⟩, hB1⟩
 have HB1 := hI hB1; clear hB1
 cases b with
 | false =>
  by_cases h1 : (n : Int) ≤ 64
  ·by_cases h2 : (n' : Int) ≤ 256
   ·go_wp2_with fail
    refine (works12_c _ (HT.out.below HB1.out rr)).mono ?_
    rintro e w9 ⟨rfl, hbw⟩
    go_wp2
    go_ret
    exact ⟨rfl, HB1.out.trans (hbw.mono HB1.out.size)⟩
   ·go_wp2_with fail
    refine (table12_c A n c xs A' n' c' wss w1 (HX.out.below HB1.out rr) (HW.out.below HB1.out rr) (HT.out.below HB1.out rr)).mono ?_
    obtain ⟨r, hr⟩ : ∃ r, r = tableM (lawsD xs) wss := ⟨_, rfl⟩
    rw [← hr]
    have HR := hI hr; clear hr
    rintro e w2 ⟨A2, n2, c2, rfl, hi2, hb2⟩
    have HB2 := hI (HB1.out.trans (hb2.mono HB1.out.size))
    clear hb2
    have HI2 := hI hi2; clear hi2
    go_wp2_with fail
    refine (r12Table_c A n c xs A' n' c' wss w2 (HX.out.below HB2.out rr) (HW.out.below HB2.out rr) HU.out HWU.out).mono ?_
    rw [← HR.out]
    rintro e w3 ⟨A3, n3, c3, rfl, hi3, hb3⟩
    have HB3 := hI (HB2.out.trans (hb3.mono HB2.out.size))
    have HI2' := hI (HI2.out.below hb3 rr)
    clear hb3 HI2
    have HI3 := hI hi3; clear hi3
    have hnn : n2 = n3 := HI2'.out.len.symm.trans HI3.out.len
    subst hnn
    have hm2 := HI2'.out.max
    have hne1 : (r.1 != r.1) = false := by simp
    have hne2 : ((n2 : Int) != (n2 : Int)) = false := by simp
    go_wp2_with fail
    clear hne1 hne2
    go_loopw [9] (fun vi wr => ∃ i : Nat, vi = .int .i64 i ∧ i ≤ n2 ∧ Below w3.heap.size w3 wr) (fun vi _ => n2 - (intOf vi).toNat)
    case atStart => exact ⟨0, rfl, Nat.zero_le _, Below.refl _ _⟩
    case round =>
     obtain ⟨i, rfl, hi, hB⟩ := hrel
     have hBs := hB.size
     by_cases hlt : i < n2
     ·have hi1 : (i : Int) < (n2 : Int) := by omega
      obtain ⟨b, off, g, ro, rfl, hb, hc0, hro, hri⟩ := (HI2'.out.below hB rr).at_ hnm hlt
      obtain ⟨b', off', g', ro', rfl, hb', hc0', hro', hri'⟩ := (HI3.out.below hB rr).at_ hnm hlt
      rw [hro] at hro'
      obtain rfl : ro = ro' := by simpa using hro'
      clear hro hro'
      have HRI := hI hri; clear hri
      have HRI' := hI hri'; clear hri'
      go_wp2
      refine plain_region (fun W' => W'.cell? ⟨b, off + i, none⟩ = some (.slice (some ⟨g, 0, none⟩) n n) ∧ W'.cell? ⟨b', off' + i, none⟩ = some (.slice (some ⟨g', 0, none⟩) n n)) (by kernel_rfl) ⟨hc0, hc0'⟩ (fun hHeld => ?_)
      (refine' anyT_tk 0 rfl ?_; (try simp only [Act.put, nA, nB, nC, nD, nE, nF])); (refine' anyT_tk 1 rfl ?_; (try simp only [Act.put, nA, nB, nC, nD, nE, nF])); (refine' anyT_tk 2 rfl ?_; (try simp only [Act.put, nA, nB, nC, nD, nE, nF])); (refine' anyT_tk 3 rfl ?_; (try simp only [Act.put, nA, nB, nC, nD, nE, nF])); (refine' anyT_tk 4 rfl ?_; (try simp only [Act.put, nA, nB, nC, nD, nE, nF])); (refine' anyT_tk 5 rfl ?_; (try simp only [Act.put, nA, nB, nC, nD, nE, nF])); (refine' anyT_tk 6 rfl ?_; (try simp only [Act.put, nA, nB, nC, nD, nE, nF])); (refine' anyT_tk 7 rfl ?_; (try simp only [Act.put, nA, nB, nC, nD, nE, nF]))
      (refine anyT_step (i := 8) (by kernel_rfl) rfl (fun K' hK' => ?_); simp only [List.getElem_toArray, List.getElem_cons_zero, List.getElem_cons_succ]; go_simp)
      have hd5 : Below wr.heap.size wr wr.drew := (Below.refl wr.heap.size wr).drew
      refine (ints12_c _ _ n n n n ro ro _ (HRI.out.below hd5 rr) (HRI'.out.below hd5 rr)).mono ?_
      rintro e w6 ⟨rfl, hb6'⟩
      have hb6 : Below wr.heap.size wr w6 := hd5.trans (hb6'.mono hd5.size)
      rw [show decide (ro = ro) = true from decide_eq_true rfl]
      refine hK' _ _ ⟨.inr ⟨(hb6.cell (p := ⟨b, off + i, none⟩) hb).trans hc0, (hb6.cell (p := ⟨b', off' + i, none⟩) hb').trans hc0'⟩, fun _ => ?_⟩
      clear hK' K' hHeld hc0 hc0' hd5 hb6'
      (try simp only [Act.put, nA, nB, nC, nD, nE, nF])
      (refine anyT_step (i := 9) (by kernel_rfl) rfl (fun K' hK' => ?_); simp only [List.getElem_toArray, List.getElem_cons_zero, List.getElem_cons_succ]; go_simp)
      refine hK' _ _ ⟨.inl (by kernel_rfl), fun _ => anyT_done (by kernel_rfl) ?_ _⟩
      clear hK' K'
      have hB6 := hB.trans (hb6.mono hBs)
      clear hb6
      go_wp2
      go_roundw
      case rel => exact ⟨i + 1, by go_num, by omega, hB6⟩
      case measure => simp [intOf]; omega
     ·have hi1 : ¬ ((i : Int) < (n2 : Int)) := by omega
      have HBX := hI (HB3.out.trans (hB.mono HB3.out.size))
      go_wp2_with fail
      refine (works12_c _ (HT.out.below HBX.out rr)).mono ?_
      rintro e w9 ⟨rfl, hbw⟩
      go_wp2
      go_ret
      exact ⟨rfl, HBX.out.trans (hbw.mono HBX.out.size)⟩
  ·go_wp2_with fail
   refine (table12_c A n c xs A' n' c' wss w1 (HX.out.below HB1.out rr) (HW.out.below HB1.out rr) (HT.out.below HB1.out rr)).mono ?_
   obtain ⟨r, hr⟩ : ∃ r, r = tableM (lawsD xs) wss := ⟨_, rfl⟩
   rw [← hr]
   have HR := hI hr; clear hr
   rintro e w2 ⟨A2, n2, c2, rfl, hi2, hb2⟩
   have HB2 := hI (HB1.out.trans (hb2.mono HB1.out.size))
   clear hb2
   have HI2 := hI hi2; clear hi2
   go_wp2_with fail
   refine (r12Table_c A n c xs A' n' c' wss w2 (HX.out.below HB2.out rr) (HW.out.below HB2.out rr) HU.out HWU.out).mono ?_
   rw [← HR.out]
   rintro e w3 ⟨A3, n3, c3, rfl, hi3, hb3⟩
   have HB3 := hI (HB2.out.trans (hb3.mono HB2.out.size))
   have HI2' := hI (HI2.out.below hb3 rr)
   clear hb3 HI2
   have HI3 := hI hi3; clear hi3
   have hnn : n2 = n3 := HI2'.out.len.symm.trans HI3.out.len
   subst hnn
   have hm2 := HI2'.out.max
   have hne1 : (r.1 != r.1) = false := by simp
   have hne2 : ((n2 : Int) != (n2 : Int)) = false := by simp
   go_wp2_with fail
   clear hne1 hne2
   go_loopw [9] (fun vi wr => ∃ i : Nat, vi = .int .i64 i ∧ i ≤ n2 ∧ Below w3.heap.size w3 wr) (fun vi _ => n2 - (intOf vi).toNat)
   case atStart => exact ⟨0, rfl, Nat.zero_le _, Below.refl _ _⟩
   case round =>
    obtain ⟨i, rfl, hi, hB⟩ := hrel
    have hBs := hB.size
    by_cases hlt : i < n2
    ·have hi1 : (i : Int) < (n2 : Int) := by omega
     obtain ⟨b, off, g, ro, rfl, hb, hc0, hro, hri⟩ := (HI2'.out.below hB rr).at_ hnm hlt
     obtain ⟨b', off', g', ro', rfl, hb', hc0', hro', hri'⟩ := (HI3.out.below hB rr).at_ hnm hlt
     rw [hro] at hro'
     obtain rfl : ro = ro' := by simpa using hro'
     clear hro hro'
     have HRI := hI hri; clear hri
     have HRI' := hI hri'; clear hri'
     go_wp2
     refine plain_region (fun W' => W'.cell? ⟨b, off + i, none⟩ = some (.slice (some ⟨g, 0, none⟩) n n) ∧ W'.cell? ⟨b', off' + i, none⟩ = some (.slice (some ⟨g', 0, none⟩) n n)) (by kernel_rfl) ⟨hc0, hc0'⟩ (fun hHeld => ?_)
     (refine' anyT_tk 0 rfl ?_; (try simp only [Act.put, nA, nB, nC, nD, nE, nF])); (refine' anyT_tk 1 rfl ?_; (try simp only [Act.put, nA, nB, nC, nD, nE, nF])); (refine' anyT_tk 2 rfl ?_; (try simp only [Act.put, nA, nB, nC, nD, nE, nF])); (refine' anyT_tk 3 rfl ?_; (try simp only [Act.put, nA, nB, nC, nD, nE, nF])); (refine' anyT_tk 4 rfl ?_; (try simp only [Act.put, nA, nB, nC, nD, nE, nF])); (refine' anyT_tk 5 rfl ?_; (try simp only [Act.put, nA, nB, nC, nD, nE, nF])); (refine' anyT_tk 6 rfl ?_; (try simp only [Act.put, nA, nB, nC, nD, nE, nF])); (refine' anyT_tk 7 rfl ?_; (try simp only [Act.put, nA, nB, nC, nD, nE, nF]))
     (refine anyT_step (i := 8) (by kernel_rfl) rfl (fun K' hK' => ?_); simp only [List.getElem_toArray, List.getElem_cons_zero, List.getElem_cons_succ]; go_simp)
     have hd5 : Below wr.heap.size wr wr.drew := (Below.refl wr.heap.size wr).drew
     refine (ints12_c _ _ n n n n ro ro _ (HRI.out.below hd5 rr) (HRI'.out.below hd5 rr)).mono ?_
     rintro e w6 ⟨rfl, hb6'⟩
     have hb6 : Below wr.heap.size wr w6 := hd5.trans (hb6'.mono hd5.size)
     rw [show decide (ro = ro) = true from decide_eq_true rfl]
     refine hK' _ _ ⟨.inr ⟨(hb6.cell (p := ⟨b, off + i, none⟩) hb).trans hc0, (hb6.cell (p := ⟨b', off' + i, none⟩) hb').trans hc0'⟩, fun _ => ?_⟩
     clear hK' K' hHeld hc0 hc0' hd5 hb6'
     (try simp only [Act.put, nA, nB, nC, nD, nE, nF])
     (refine anyT_step (i := 9) (by kernel_rfl) rfl (fun K' hK' => ?_); simp only [List.getElem_toArray, List.getElem_cons_zero, List.getElem_cons_succ]; go_simp)
     refine hK' _ _ ⟨.inl (by kernel_rfl), fun _ => anyT_done (by kernel_rfl) ?_ _⟩
     clear hK' K'
     have hB6 := hB.trans (hb6.mono hBs)
     clear hb6
     go_wp2
     go_roundw
     case rel => exact ⟨i + 1, by go_num, by omega, hB6⟩
     case measure => simp [intOf]; omega
    ·have hi1 : ¬ ((i : Int) < (n2 : Int)) := by omega
     have HBX := hI (HB3.out.trans (hB.mono HB3.out.size))
     go_wp2_with fail
     refine (works12_c _ (HT.out.below HBX.out rr)).mono ?_
     rintro e w9 ⟨rfl, hbw⟩
     go_wp2
     go_ret
     exact ⟨rfl, HBX.out.trans (hbw.mono HBX.out.size)⟩
 | true =>
  go_wp2_with fail
  refine (table12_c A n c xs A' n' c' wss w1 (HX.out.below HB1.out rr) (HW.out.below HB1.out rr) (HT.out.below HB1.out rr)).mono ?_
  obtain ⟨r, hr⟩ : ∃ r, r = tableM (lawsD xs) wss := ⟨_, rfl⟩
  rw [← hr]
  have HR := hI hr; clear hr
  rintro e w2 ⟨A2, n2, c2, rfl, hi2, hb2⟩
  have HB2 := hI (HB1.out.trans (hb2.mono HB1.out.size))
  clear hb2
  have HI2 := hI hi2; clear hi2
  go_wp2_with fail
  refine (r12Table_c A n c xs A' n' c' wss w2 (HX.out.below HB2.out rr) (HW.out.below HB2.out rr) HU.out HWU.out).mono ?_
  rw [← HR.out]
  rintro e w3 ⟨A3, n3, c3, rfl, hi3, hb3⟩
  have HB3 := hI (HB2.out.trans (hb3.mono HB2.out.size))
  have HI2' := hI (HI2.out.below hb3 rr)
  clear hb3 HI2
  have HI3 := hI hi3; clear hi3
  have hnn : n2 = n3 := HI2'.out.len.symm.trans HI3.out.len
  subst hnn
  have hm2 := HI2'.out.max
  have hne1 : (r.1 != r.1) = false := by simp
  have hne2 : ((n2 : Int) != (n2 : Int)) = false := by simp
  go_wp2_with fail
  clear hne1 hne2
  go_loopw [9] (fun vi wr => ∃ i : Nat, vi = .int .i64 i ∧ i ≤ n2 ∧ Below w3.heap.size w3 wr) (fun vi _ => n2 - (intOf vi).toNat)
  case atStart => exact ⟨0, rfl, Nat.zero_le _, Below.refl _ _⟩
  case round =>
   obtain ⟨i, rfl, hi, hB⟩ := hrel
   have hBs := hB.size
   by_cases hlt : i < n2
   ·have hi1 : (i : Int) < (n2 : Int) := by omega
    obtain ⟨b, off, g, ro, rfl, hb, hc0, hro, hri⟩ := (HI2'.out.below hB rr).at_ hnm hlt
    obtain ⟨b', off', g', ro', rfl, hb', hc0', hro', hri'⟩ := (HI3.out.below hB rr).at_ hnm hlt
    rw [hro] at hro'
    obtain rfl : ro = ro' := by simpa using hro'
    clear hro hro'
    have HRI := hI hri; clear hri
    have HRI' := hI hri'; clear hri'
    go_wp2
    refine plain_region (fun W' => W'.cell? ⟨b, off + i, none⟩ = some (.slice (some ⟨g, 0, none⟩) n n) ∧ W'.cell? ⟨b', off' + i, none⟩ = some (.slice (some ⟨g', 0, none⟩) n n)) (by kernel_rfl) ⟨hc0, hc0'⟩ (fun hHeld => ?_)
    (refine' anyT_tk 0 rfl ?_; (try simp only [Act.put, nA, nB, nC, nD, nE, nF])); (refine' anyT_tk 1 rfl ?_; (try simp only [Act.put, nA, nB, nC, nD, nE, nF])); (refine' anyT_tk 2 rfl ?_; (try simp only [Act.put, nA, nB, nC, nD, nE, nF])); (refine' anyT_tk 3 rfl ?_; (try simp only [Act.put, nA, nB, nC, nD, nE, nF])); (refine' anyT_tk 4 rfl ?_; (try simp only [Act.put, nA, nB, nC, nD, nE, nF])); (refine' anyT_tk 5 rfl ?_; (try simp only [Act.put, nA, nB, nC, nD, nE, nF])); (refine' anyT_tk 6 rfl ?_; (try simp only [Act.put, nA, nB, nC, nD, nE, nF])); (refine' anyT_tk 7 rfl ?_; (try simp only [Act.put, nA, nB, nC, nD, nE, nF]))
    (refine anyT_step (i := 8) (by kernel_rfl) rfl (fun K' hK' => ?_); simp only [List.getElem_toArray, List.getElem_cons_zero, List.getElem_cons_succ]; go_simp)
    have hd5 : Below wr.heap.size wr wr.drew := (Below.refl wr.heap.size wr).drew
    refine (ints12_c _ _ n n n n ro ro _ (HRI.out.below hd5 rr) (HRI'.out.below hd5 rr)).mono ?_
    rintro e w6 ⟨rfl, hb6'⟩
    have hb6 : Below wr.heap.size wr w6 := hd5.trans (hb6'.mono hd5.size)
    rw [show decide (ro = ro) = true from decide_eq_true rfl]
    refine hK' _ _ ⟨.inr ⟨(hb6.cell (p := ⟨b, off + i, none⟩) hb).trans hc0, (hb6.cell (p := ⟨b', off' + i, none⟩) hb').trans hc0'⟩, fun _ => ?_⟩
    clear hK' K' hHeld hc0 hc0' hd5 hb6'
    (try simp only [Act.put, nA, nB, nC, nD, nE, nF])
    (refine anyT_step (i := 9) (by kernel_rfl) rfl (fun K' hK' => ?_); simp only [List.getElem_toArray, List.getElem_cons_zero, List.getElem_cons_succ]; go_simp)
    refine hK' _ _ ⟨.inl (by kernel_rfl), fun _ => anyT_done (by kernel_rfl) ?_ _⟩
    clear hK' K'
    have hB6 := hB.trans (hb6.mono hBs)
    clear hb6
    go_wp2
    go_roundw
    case rel => exact ⟨i + 1, by go_num, by omega, hB6⟩
    case measure => simp [intOf]; omega
   ·have hi1 : ¬ ((i : Int) < (n2 : Int)) := by omega
    have HBX := hI (HB3.out.trans (hB.mono HB3.out.size))
    go_wp2_with fail
    refine (works12_c _ (HT.out.below HBX.out rr)).mono ?_
    rintro e w9 ⟨rfl, hbw⟩
    go_wp2
    go_ret
    exact ⟨rfl, HBX.out.trans (hbw.mono HBX.out.size)⟩
end Go.Proofs.YtcpcojgmmpnkoaaGreatDoor

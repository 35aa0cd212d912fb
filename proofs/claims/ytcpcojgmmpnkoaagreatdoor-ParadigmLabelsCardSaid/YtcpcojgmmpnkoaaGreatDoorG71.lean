/-
  ablautref29: labels, Same, Classes.
  ablautref29.Grades.
-/
import Derived.Test.YtcpcojgmmpnkoaaGreatDoorG70
import Derived.Test.YtcpcojgmmpnkoaaGreatDoorG68
import Derived.Test.YtcpcojgmmpnkoaaGreatDoorG62
import Derived.Test.YtcpcojgmmpnkoaaGreatDoorG63
import Derived.Test.YtcpcojgmmpnkoaaGreatDoorG09
set_option linter.unusedVariables false
set_option linter.unusedSimpArgs false
set_option maxRecDepth 100000
set_option maxHeartbeats 4000000
namespace Go.Proofs.YtcpcojgmmpnkoaaGreatDoor
open Go.RowKit Go.Shelf
theorem r29labels_c (A : Option Addr) (n c : Nat) (l : List Frm) (w : World) (hx : IsForms w A n c l) (hn : n ≤ 16) :
  Calls Tryz.prog 118 #[.slice A n c] w (RetIntsN w (labelsM l)) := by
 have hm := hx.max
 have HLL : Hid (l.length = n) := hx.len
 have HX := hI hx; clear hx
 go_enter Tryz.func118, Tryz.ntmps118
 go_wp2_with fail
 go_loopw [3, 4] (fun v vi wr => ∃ i : Nat, vi = .int .i64 i ∧ i ≤ n ∧ Hid (wr.ownsRow w.heap.size 3 1 v i (((labelsM l).take i).map (Value.int .i64))) ∧ Below w.heap.size w wr) (fun _ vi _ => n - (intOf vi).toNat)
 case atStart => exact ⟨0, rfl, Nat.zero_le _, World.ownsRow_nil _ _ _ _, Below.refl _ _⟩
 case round =>
  obtain ⟨i, rfl, hi, hown, hB⟩ := hrel
  have hBs := hB.size
  by_cases hlt : i < n
  ·have hi1 : (i : Int) < (n : Int) := by omega
   obtain ⟨b, off, h, A1, n1, c1, ws, rfl, hb, hc00, hc10, hli, hws⟩ := HX.out.at_ hlt
   obtain ⟨x, hx⟩ : ∃ x : Frm, x = (h, ws) := ⟨_, rfl⟩
   rw [← hx] at hli
   have HLI := hI hli; clear hli
   have HXE := hI hx; clear hx
   have HW := hI hws; clear hws
   have HC := hI (And.intro hc00 hc10)
   clear hc00 hc10
   obtain ⟨wi, hwi⟩ : ∃ wi, wi = wr := ⟨_, rfl⟩
   rw [← hwi] at hown hB hBs
   have HWI := hI hwi; clear hwi
   go_wp2_with fail
   go_loopw [5] (fun vj wr => ∃ j : Nat, vj = .int .i64 j ∧ Hid (j ≤ l.findIdx (fun y => decide (y = x))) ∧ Below wi.heap.size wi wr) (fun vj _ => n - (intOf vj).toNat)
   case atStart => exact ⟨0, rfl, Nat.zero_le _, by rw [HWI.out]; exact Below.refl _ _⟩
   case round =>
    obtain ⟨j, rfl, hjl, hB5⟩ := hrel
    have hjlt : j ≤ i := Nat.le_trans hjl.out (lab_le HLI.out)
    have hB5s := hB5.size
    have hBB := hB.trans (hB5.mono hBs)
    obtain ⟨b', off', h', A2, n2, c2, ws', hA', hb', hd0, hd1, hlj, hws'⟩ := (HX.out.below hBB rr).at_ (show j < n by omega)
    obtain ⟨rfl, rfl⟩ : b = b' ∧ off = off' := by simpa using hA'
    clear hA'
    have hc0 := (hBB.cell (p := ⟨b, off + i * 2, none⟩) hb).trans HC.out.1
    have hc1 := (hBB.cell (p := ⟨b, off + i * 2 + 1, none⟩) hb).trans HC.out.2
    obtain ⟨y, hy⟩ : ∃ y : Frm, y = (h', ws') := ⟨_, rfl⟩
    rw [← hy] at hlj
    have HLJ := hI hlj; clear hlj
    have HYE := hI hy; clear hy
    have HW' := hI hws'; clear hws'
    have HWr := hI (HW.out.below hBB rr)
    have hj1 : (j : Int) < (n : Int) := by omega
    go_wp2_with fail
    refine plain_region (fun W' => W'.cell? ⟨b, off + i * 2, none⟩ = some (.bool h) ∧ W'.cell? ⟨b, off + i * 2 + 1, none⟩ = some (.slice A1 n1 c1) ∧ W'.cell? ⟨b, off + j * 2, none⟩ = some (.bool h') ∧ W'.cell? ⟨b, off + j * 2 + 1, none⟩ = some (.slice A2 n2 c2)) (by kernel_rfl) ⟨hc0, hc1, hd0, hd1⟩ (fun hHeld => ?_)
    (refine' anyT_tk 0 rfl ?_; (try simp only [Act.put, nA, nB, nC, nD, nE, nF])); (refine' anyT_tk 1 rfl ?_; (try simp only [Act.put, nA, nB, nC, nD, nE, nF])); (refine' anyT_tk 2 rfl ?_; (try simp only [Act.put, nA, nB, nC, nD, nE, nF])); (refine' anyT_tk 3 rfl ?_; (try simp only [Act.put, nA, nB, nC, nD, nE, nF])); (refine' anyT_tk 4 rfl ?_; (try simp only [Act.put, nA, nB, nC, nD, nE, nF])); (refine' anyT_tk 5 rfl ?_; (try simp only [Act.put, nA, nB, nC, nD, nE, nF])); (refine' anyT_tk 6 rfl ?_; (try simp only [Act.put, nA, nB, nC, nD, nE, nF])); (refine' anyT_tk 7 rfl ?_; (try simp only [Act.put, nA, nB, nC, nD, nE, nF]))
    (refine anyT_step (i := 8) (by kernel_rfl) rfl (fun K' hK' => ?_); simp only [List.getElem_toArray, List.getElem_cons_zero, List.getElem_cons_succ]; go_simp)
    have hd5 : Below wr.heap.size wr wr.drew := (Below.refl wr.heap.size wr).drew
    refine (r29Equal_c ⟨h', (A2, n2, c2, ws')⟩ ⟨h, (A1, n1, c1, ws)⟩ _ (HW'.out.below hd5 rr) (HWr.out.below hd5 rr)).mono ?_
    obtain ⟨d, hd⟩ : ∃ d, d = decide (FormR.data ⟨h', (A2, n2, c2, ws')⟩ = FormR.data ⟨h, (A1, n1, c1, ws)⟩) := ⟨_, rfl⟩
    rw [← hd]
    have HD : Hid (d = decide (y = x)) := by show _ = _; rw [hd, HXE.out, HYE.out]; rfl
    clear hd
    rintro e w6 ⟨rfl, hb6'⟩
    rw [World.size_drew] at hb6'
    have hb6 := hd5.trans hb6'
    have hS6 : w6.cell? ⟨b, off + i * 2, none⟩ = some (.bool h) ∧ w6.cell? ⟨b, off + i * 2 + 1, none⟩ = some (.slice A1 n1 c1) ∧ w6.cell? ⟨b, off + j * 2, none⟩ = some (.bool h') ∧ w6.cell? ⟨b, off + j * 2 + 1, none⟩ = some (.slice A2 n2 c2) := ⟨(hb6.cell (p := ⟨b, off + i * 2, none⟩) hb').trans hc0, (hb6.cell (p := ⟨b, off + i * 2 + 1, none⟩) hb').trans hc1, (hb6.cell (p := ⟨b, off + j * 2, none⟩) hb').trans hd0, (hb6.cell (p := ⟨b, off + j * 2 + 1, none⟩) hb').trans hd1⟩
    refine hK' _ _ ⟨.inr hS6, fun _ => ?_⟩
    clear hK' K' hHeld hc0 hc1 hd0 hd1 hb6' hd5
    (try simp only [Act.put, nA, nB, nC, nD, nE, nF])
    (refine anyT_step (i := 9) (by kernel_rfl) rfl (fun K' hK' => ?_); simp only [List.getElem_toArray, List.getElem_cons_zero, List.getElem_cons_succ]; go_simp)
    refine hK' _ _ ⟨.inl (by kernel_rfl), fun _ => anyT_done (by kernel_rfl) ?_ _⟩
    clear hK' K' hS6
    have hB56 := hB5.trans (hb6.mono hB5s)
    have hB6 := hB.trans (hB56.mono hBs)
    cases d with
    | false =>
     have hne : y ≠ x := fun e => by have := HD.out; rw [decide_eq_true e] at this; cases this
     have HNX : Hid (j + 1 ≤ l.findIdx (fun y => decide (y = x))) := lab_next HLJ.out hjl.out hne
     have hji : j + 1 ≤ i := Nat.le_trans HNX.out (lab_le HLI.out)
     clear hne hb6
     go_wp2
     go_roundw
     case rel => exact ⟨j + 1, by go_num, HNX.out, hB56⟩
     case measure => simp [intOf]; omega
    | true =>
     have heq : y = x := of_decide_eq_true HD.out.symm
     have hb6' := hB5.trans (hb6.mono hB5s)
     clear hb6 hB56
     have HN : Hid ((labelsM l).take (i + 1) = (labelsM l).take i ++ [(j : Int)]) := by
      show _ = _
      rw [take_snoc' (labelsM l) i _ (by rw [labels_at HLI.out, lab_is HLJ.out hjl.out heq])]
     clear heq
     have hrl : ((labelsM l).take i).length = i := by rw [List.length_take, labels_len, HLL.out]; omega
     have hb8 : Below w6.heap.size w6 (w6.alloc (.cells #[.int .i64 j] 3)) := bel
     have HO8 := hI (own_heap hown.out fun k e => (hb6'.trans (hb8.mono hb6'.size)).block k (hown.out.lt k e).2)
     have HB8 := hI (hB6.trans (hb8.mono hB6.size))
     have hil : i ≤ 16 := by omega
     clear hb8 hrl
     go_wp2_with (at_builtin; refine append_int rfl (.tmp 24) (.tmp 26) rfl w.heap.size u3 i (((labelsM l).take i).map (Value.int .i64)) rfl HO8.out ⟨w6.heap.size, 0, none⟩ 1 (.int .i64 j) rfl (cell_one_new _ _ _) rfl ?hl ?hz ?hc)
     case hl => omega
     case hz => simpa using HB8.out.size
     case hc =>
      intro v9 w9 hown9 hg9 hat9
      have HO9 : Hid (w9.ownsRow w.heap.size 3 1 v9 (i + 1) (((labelsM l).take (i + 1)).map (Value.int .i64))) := by show World.ownsRow _ _ _ _ _ _ _; rw [HN.out, List.map_append, List.map_take]; exact hown9
      have hB9 : Below w.heap.size w w9 := own_below HB8.out HO8.out hg9 rr HB8.out.size
      clear hown9 hg9 hat9
      go_wp2
      go_roundw
      case rel => exact ⟨i + 1, by go_num, by omega, HO9.out, hB9⟩
      case measure => simp [intOf]; omega
  ·have hi1 : ¬ ((i : Int) < (n : Int)) := by omega
   obtain ⟨A8, c8, hv8⟩ := own_form hown.out
   subst hv8
   have HI : Hid (IsInts wr A8 i c8 (labelsM l)) := by
    have h1 := Cells.of_own hown.out (by decide)
    rw [List.take_of_length_le (by rw [labels_len, HLL.out]; omega)] at h1
    exact h1
   go_wp2
   go_ret
   exact ⟨A8, i, c8, rfl, HI.out, hB⟩
theorem r29Same_c (A : Option Addr) (n c : Nat) (T : List (List Frm)) (r : Int) (w : World) (hx : IsPar w A n c T) (hu : ParU T) (hr : -9223372036854775808 ≤ r ∧ r ≤ 9223372036854775807) :
  Calls Tryz.prog 55 #[.slice A n c, .int .i64 r] w (RetNsE w (pSameM T r)) := by
 have HX := hI hx; clear hx
 have HU := hI hu; clear hu
 go_enter Tryz.func55, Tryz.ntmps55
 go_wp2_with fail
 refine (r29row_c A n c T r w HX.out HU.out hr).mono ?_
 obtain ⟨er, her⟩ : ∃ er, er = lineE T r := ⟨_, rfl⟩
 rw [← her]
 rintro e w1 ⟨rfl, hB1⟩
 by_cases h0 : er = 0
 case neg =>
  have h1 : (er != 0) = true := by simpa using h0
  have HM : Hid (pSameM T r = (er, [])) := by show _ = _; unfold pSameM; rw [← her, if_pos h0]
  clear h0 her
  go_wp2
  go_ret2
  exact ⟨none, 0, 0, by rw [HM.out]; rfl, by rw [HM.out]; exact Cells.nil _ _, hB1⟩
 have h1 : (er != 0) = false := by simpa using h0
 have hle : lineE T r = 0 := her.symm.trans h0
 have HM : Hid (pSameM T r = (0, labelsM (lineR T r))) := by show _ = _; unfold pSameM; rw [if_neg (by simpa using hle)]
 obtain ⟨hpe, hr0, hrn⟩ := line_in hle
 rw [HX.out.len] at hrn
 obtain ⟨k, rfl⟩ : ∃ k : Nat, r = k := ⟨r.toNat, by omega⟩
 clear h0 her hle hr hr0
 have hlt : k < n := by omega
 obtain ⟨b, off, A1, n1, c1, l, rfl, hb, hc0, hlk, hfl⟩ := (HX.out.below hB1 rr).at_ hlt
 rw [row_at hlk] at HM
 have hn16 : n1 ≤ 16 := by rw [← hfl.len]; exact (par_row hpe (List.mem_of_getElem? hlk)).1
 have HF := hI hfl
 clear hfl hlk hpe
 go_wp2_with fail
 refine (r29labels_c A1 n1 c1 l w1 HF.out hn16).mono ?_
 rintro e w2 ⟨A2, n2, c2, rfl, hi2, hb2⟩
 have hB2 := hB1.trans (hb2.mono hB1.size)
 have HI2 := hI hi2
 clear hb2 hi2
 go_wp2
 go_ret2
 exact ⟨A2, n2, c2, by rw [HM.out]; rfl, by rw [HM.out]; exact HI2.out, hB2⟩
theorem r29Classes_c (A : Option Addr) (n c : Nat) (T : List (List Frm)) (w : World) (hx : IsPar w A n c T) (hu : ParU T) :
  Calls Tryz.prog 59 #[.slice A n c] w (RetNsE w (pClassM T)) := by
 have hm := hx.max
 have HLT : Hid (T.length = n) := hx.len
 have HX := hI hx; clear hx
 have HU := hI hu; clear hu
 go_enter Tryz.func59, Tryz.ntmps59
 go_wp2_with fail
 refine (r29Check_c A n c T w HX.out HU.out).mono ?_
 obtain ⟨er, her⟩ : ∃ er, er = parE T := ⟨_, rfl⟩
 rw [← her]
 rintro e w1 ⟨rfl, hB1⟩
 by_cases h0 : er = 0
 case neg =>
  have h1 : (er != 0) = true := by simpa using h0
  have HM : Hid (pClassM T = (er, [])) := by show _ = _; unfold pClassM; rw [← her, if_pos h0]
  clear h0 her
  go_wp2
  go_ret2
  exact ⟨none, 0, 0, by rw [HM.out]; rfl, by rw [HM.out]; exact Cells.nil _ _, hB1⟩
 have h1 : (er != 0) = false := by simpa using h0
 have hpe : parE T = 0 := her.symm.trans h0
 have HM : Hid (pClassM T = (0, labelsM (T.map endsOf))) := by show _ = _; unfold pClassM; rw [if_neg (by simpa using hpe)]
 have hn64 : n ≤ 64 := by rw [← HLT.out]; exact (shape_len (par_shape hpe)).1
 have HPE := hI hpe
 have HB1 := hI hB1
 have HLL : Hid ((T.map endsOf).length = n) := by show _ = _; rw [List.length_map, HLT.out]
 clear h0 her hpe hB1
 obtain ⟨l, hl⟩ : ∃ l, l = T.map endsOf := ⟨_, rfl⟩
 rw [← hl] at HM HLL
 have HLE := hI hl; clear hl
 go_wp2_with fail
 clear h1
 go_loopw [5, 6] (fun v vi wr => ∃ i : Nat, vi = .int .i64 i ∧ i ≤ n ∧ Hid (wr.ownsRow w1.heap.size 3 1 v i (((labelsM l).take i).map (Value.int .i64))) ∧ Below w1.heap.size w1 wr) (fun _ vi _ => n - (intOf vi).toNat)
 case atStart => exact ⟨0, rfl, Nat.zero_le _, World.ownsRow_nil _ _ _ _, Below.refl _ _⟩
 case round =>
  obtain ⟨i, rfl, hi, hown, hB⟩ := hrel
  have hBs := hB.size
  by_cases hlt : i < n
  ·have hi1 : (i : Int) < (n : Int) := by omega
   obtain ⟨b, off, A1, n1, c1, r, rfl, hb, hc00, hli, hws⟩ := HX.out.at_ hlt
   have HR1 := hI (par_row HPE.out (List.mem_of_getElem? hli))
   have hn1 : n1 ≤ 16 := by rw [← hws.len]; exact HR1.out.1
   obtain ⟨x, hx⟩ : ∃ x : List Frm, x = endsOf r := ⟨_, rfl⟩
   have HLI : Hid (l[i]? = some x) := by show _ = _; rw [HLE.out, List.getElem?_map, hli, hx]; rfl
   clear hli
   have HXE := hI hx; clear hx
   have HW := hI hws; clear hws
   have HC := hI hc00
   clear hc00
   obtain ⟨wi, hwi⟩ : ∃ wi, wi = wr := ⟨_, rfl⟩
   rw [← hwi] at hown hB hBs
   have HWI := hI hwi; clear hwi
   go_wp2_with fail
   go_loopw [7] (fun vj wr => ∃ j : Nat, vj = .int .i64 j ∧ Hid (j ≤ l.findIdx (fun y => decide (y = x))) ∧ Below wi.heap.size wi wr) (fun vj _ => n - (intOf vj).toNat)
   case atStart => exact ⟨0, rfl, Nat.zero_le _, by rw [HWI.out]; exact Below.refl _ _⟩
   case round =>
    obtain ⟨j, rfl, hjl, hB5⟩ := hrel
    have hjlt : j ≤ i := Nat.le_trans hjl.out (lab_le HLI.out)
    have hB5s := hB5.size
    have hBBi := hB.trans (hB5.mono hBs)
    have hBB := HB1.out.trans (hBBi.mono HB1.out.size)
    obtain ⟨b', off', A2, n2, c2, r', hA', hb', hd0, hlj, hws'⟩ := (HX.out.below hBB rr).at_ (show j < n by omega)
    obtain ⟨rfl, rfl⟩ : b = b' ∧ off = off' := by simpa using hA'
    clear hA'
    have hc0 := (hBB.cell (p := ⟨b, off + i, none⟩) hb).trans HC.out
    have HR2 := hI (par_row HPE.out (List.mem_of_getElem? hlj))
    have hn2 : n2 ≤ 16 := by rw [← hws'.len]; exact HR2.out.1
    obtain ⟨y, hy⟩ : ∃ y : List Frm, y = endsOf r' := ⟨_, rfl⟩
    have HLJ : Hid (l[j]? = some y) := by show _ = _; rw [HLE.out, List.getElem?_map, hlj, hy]; rfl
    clear hlj
    have HYE := hI hy; clear hy
    have HW' := hI hws'; clear hws'
    have HWr := hI (HW.out.below hBB rr)
    have hj1 : (j : Int) < (n : Int) := by omega
    go_wp2_with fail
    refine plain_region (fun W' => W'.cell? ⟨b, off + i, none⟩ = some (.slice A1 n1 c1) ∧ W'.cell? ⟨b, off + j, none⟩ = some (.slice A2 n2 c2)) (by kernel_rfl) ⟨hc0, hd0⟩ (fun hHeld => ?_)
    (refine' anyT_tk 0 rfl ?_; (try simp only [Act.put, nA, nB, nC, nD, nE, nF])); (refine' anyT_tk 1 rfl ?_; (try simp only [Act.put, nA, nB, nC, nD, nE, nF])); (refine' anyT_tk 2 rfl ?_; (try simp only [Act.put, nA, nB, nC, nD, nE, nF])); (refine' anyT_tk 3 rfl ?_; (try simp only [Act.put, nA, nB, nC, nD, nE, nF])); (refine' anyT_tk 5 rfl ?_; (try simp only [Act.put, nA, nB, nC, nD, nE, nF])); (refine' anyT_tk 6 rfl ?_; (try simp only [Act.put, nA, nB, nC, nD, nE, nF])); (refine' anyT_tk 7 rfl ?_; (try simp only [Act.put, nA, nB, nC, nD, nE, nF])); (refine' anyT_tk 8 rfl ?_; (try simp only [Act.put, nA, nB, nC, nD, nE, nF]))
    (refine anyT_step (i := 4) (by kernel_rfl) rfl (fun K' hK' => ?_); simp only [List.getElem_toArray, List.getElem_cons_zero, List.getElem_cons_succ]; go_simp)
    have hd5 : Below wr.heap.size wr wr.drew := (Below.refl wr.heap.size wr).drew
    refine (r29ends_c A2 n2 c2 r' wr.drew (HW'.out.below hd5 rr) HR2.out.2.1 hn2).mono ?_
    rintro e w3 ⟨A3, n3, c3, rfl, hf3, hb3'⟩
    rw [World.size_drew] at hb3'
    have hb3 := hd5.trans hb3'
    have HF3 := hI hf3
    have hS3 : w3.cell? ⟨b, off + i, none⟩ = some (.slice A1 n1 c1) ∧ w3.cell? ⟨b, off + j, none⟩ = some (.slice A2 n2 c2) := ⟨(hb3.cell (p := ⟨b, off + i, none⟩) hb').trans hc0, (hb3.cell (p := ⟨b, off + j, none⟩) hb').trans hd0⟩
    refine hK' _ _ ⟨.inr hS3, fun _ => ?_⟩
    clear hK' K' hHeld hb3' hf3 hd5
    (try simp only [Act.put, nA, nB, nC, nD, nE, nF])
    (refine anyT_step (i := 9) (by kernel_rfl) rfl (fun K' hK' => ?_); simp only [List.getElem_toArray, List.getElem_cons_zero, List.getElem_cons_succ]; go_simp)
    refine (r29ends_c A1 n1 c1 r w3 (HWr.out.below hb3 rr) HR1.out.2.1 hn1).mono ?_
    rintro e w4 ⟨A4, n4, c4, rfl, hf4, hb4'⟩
    have hb4 := hb3.trans (hb4'.mono hb3.size)
    have HF34 := hI (HF3.out.below hb4' rr)
    have HF4 := hI hf4
    have hS4 : w4.cell? ⟨b, off + i, none⟩ = some (.slice A1 n1 c1) ∧ w4.cell? ⟨b, off + j, none⟩ = some (.slice A2 n2 c2) := ⟨(hb4.cell (p := ⟨b, off + i, none⟩) hb').trans hc0, (hb4.cell (p := ⟨b, off + j, none⟩) hb').trans hd0⟩
    refine hK' _ _ ⟨.inr hS4, fun _ => ?_⟩
    clear hK' K' hS3 hb4' hf4
    (try simp only [Act.put, nA, nB, nC, nD, nE, nF])
    (refine anyT_step (i := 10) (by kernel_rfl) rfl (fun K' hK' => ?_); simp only [List.getElem_toArray, List.getElem_cons_zero, List.getElem_cons_succ]; go_simp)
    refine (r29Rows_c A3 A4 n3 n4 c3 c4 _ _ w4 HF34.out HF4.out).mono ?_
    rw [← HXE.out, ← HYE.out]
    obtain ⟨d, hd⟩ : ∃ d, d = decide (y = x) := ⟨_, rfl⟩
    rw [← hd]
    have HD := hI hd; clear hd
    rintro e w6 ⟨rfl, hb6'⟩
    have hb6 := hb4.trans (hb6'.mono hb4.size)
    have hS6 : w6.cell? ⟨b, off + i, none⟩ = some (.slice A1 n1 c1) ∧ w6.cell? ⟨b, off + j, none⟩ = some (.slice A2 n2 c2) := ⟨(hb6.cell (p := ⟨b, off + i, none⟩) hb').trans hc0, (hb6.cell (p := ⟨b, off + j, none⟩) hb').trans hd0⟩
    refine hK' _ _ ⟨.inr hS6, fun _ => ?_⟩
    clear hK' K' hS4 hc0 hd0 hb6' hb3 hb4
    (try simp only [Act.put, nA, nB, nC, nD, nE, nF])
    (refine anyT_step (i := 11) (by kernel_rfl) rfl (fun K' hK' => ?_); simp only [List.getElem_toArray, List.getElem_cons_zero, List.getElem_cons_succ]; go_simp)
    refine hK' _ _ ⟨.inl (by kernel_rfl), fun _ => anyT_done (by kernel_rfl) ?_ _⟩
    clear hK' K' hS6
    have hB56 := hB5.trans (hb6.mono hB5s)
    have hB6 := hB.trans (hB56.mono hBs)
    cases d with
    | false =>
     have hne : y ≠ x := fun e => by have := HD.out; rw [decide_eq_true e] at this; cases this
     have HNX : Hid (j + 1 ≤ l.findIdx (fun y => decide (y = x))) := lab_next HLJ.out hjl.out hne
     have hji : j + 1 ≤ i := Nat.le_trans HNX.out (lab_le HLI.out)
     clear hne hb6
     go_wp2
     go_roundw
     case rel => exact ⟨j + 1, by go_num, HNX.out, hB56⟩
     case measure => simp [intOf]; omega
    | true =>
     have heq : y = x := of_decide_eq_true HD.out.symm
     have hb6' := hB56
     clear hb6 hB56
     have HN : Hid ((labelsM l).take (i + 1) = (labelsM l).take i ++ [(j : Int)]) := by
      show _ = _
      rw [take_snoc' (labelsM l) i _ (by rw [labels_at HLI.out, lab_is HLJ.out hjl.out heq])]
     clear heq
     have hrl : ((labelsM l).take i).length = i := by rw [List.length_take, labels_len, HLL.out]; omega
     have hb8 : Below w6.heap.size w6 (w6.alloc (.cells #[.int .i64 j] 3)) := bel
     have HO8 := hI (own_heap hown.out fun k e => (hb6'.trans (hb8.mono hb6'.size)).block k (hown.out.lt k e).2)
     have HB8 := hI (hB6.trans (hb8.mono hB6.size))
     have hil : i ≤ 64 := by omega
     clear hb8 hrl
     go_wp2_with (at_builtin; refine append_int rfl (.tmp 33) (.tmp 35) rfl w1.heap.size u5 i (((labelsM l).take i).map (Value.int .i64)) rfl HO8.out ⟨w6.heap.size, 0, none⟩ 1 (.int .i64 j) rfl (cell_one_new _ _ _) rfl ?hl ?hz ?hc)
     case hl => omega
     case hz => simpa using HB8.out.size
     case hc =>
      intro v9 w9 hown9 hg9 hat9
      have HO9 : Hid (w9.ownsRow w1.heap.size 3 1 v9 (i + 1) (((labelsM l).take (i + 1)).map (Value.int .i64))) := by show World.ownsRow _ _ _ _ _ _ _; rw [HN.out, List.map_append, List.map_take]; exact hown9
      have hB9 : Below w1.heap.size w1 w9 := own_below HB8.out HO8.out hg9 rr HB8.out.size
      clear hown9 hg9 hat9
      go_wp2
      go_roundw
      case rel => exact ⟨i + 1, by go_num, by omega, HO9.out, hB9⟩
      case measure => simp [intOf]; omega
  ·have hi1 : ¬ ((i : Int) < (n : Int)) := by omega
   obtain ⟨A8, c8, hv8⟩ := own_form hown.out
   subst hv8
   have HI : Hid (IsInts wr A8 i c8 (labelsM l)) := by
    have h1 := Cells.of_own hown.out (by decide)
    rw [List.take_of_length_le (by rw [labels_len, HLL.out]; omega)] at h1
    exact h1
   have HBF := hI (HB1.out.trans (hB.mono HB1.out.size))
   go_wp2
   go_ret2
   exact ⟨A8, i, c8, by rw [HM.out]; rfl, by rw [HM.out]; exact HI.out, HBF.out⟩
theorem filter_snoc {α : Type} {p : α → Bool} {l : List α} {k : Nat} {x : α} (h : l[k]? = some x) : (l.take (k + 1)).filter p = (l.take k).filter p ++ (if p x = true then [x] else []) := by
 rw [take_snoc' l k x h, List.filter_append]
 by_cases hp : p x = true
 ·rw [if_pos hp, List.filter_cons_of_pos hp]; rfl
 ·rw [if_neg hp, List.filter_cons_of_neg hp]; rfl
theorem r29Grades_c (A : Option Addr) (n c : Nat) (T : List (List Frm)) (r : Int) (cp cm : Int) (w : World) (hx : IsPar w A n c T) (hu : ParU T) (hr : -9223372036854775808 ≤ r ∧ r ≤ 9223372036854775807) (hcp : U32 cp) (hcm : U32 cm) :
  Calls Tryz.prog 57 #[.slice A n c, .int .i64 r, sndV cp cm] w (RetNsE w (pGradesM T r (cp, cm))) := by
 have hm := hx.max
 have HX := hI hx; clear hx
 have HU := hI hu; clear hu
 have HCP := hI hcp; clear hcp
 have HCM := hI hcm; clear hcm
 have hb0 : Below w.heap.size w (w.alloc (.cells #[.int .u32 cp, .int .u32 cm] 24)) := bel
 have hk0 : (w.alloc (.cells #[.int .u32 cp, .int .u32 cm] 24)).heap[w.heap.size]? = some (.cells #[.int .u32 cp, .int .u32 cm] 24 (0, 0)) := hpt
 go_enter Tryz.func57, Tryz.ntmps57
 go_wp2_with fail
 generalize (w.alloc (.cells #[.int .u32 cp, .int .u32 cm] 24)) = V0 at *
 obtain ⟨bp, hbp⟩ : ∃ bp, bp = w.heap.size := ⟨_, rfl⟩
 rw [← hbp] at hk0 ⊢
 have hbpw : w.heap.size ≤ bp := Nat.le_of_eq hbp.symm
 clear hbp
 refine (r29Check_c A n c T V0 (HX.out.below hb0 rr) HU.out).mono ?_
 obtain ⟨er, her⟩ : ∃ er, er = parE T := ⟨_, rfl⟩
 rw [← her]
 rintro e w1 ⟨rfl, hb1⟩
 have hB1 := hb0.trans (hb1.mono hb0.size)
 have hk1 := (hb1.block bp (lt_of_block hk0)).trans hk0
 clear hb0 hb1 hk0
 by_cases h0 : er = 0
 case neg =>
  have h1 : (er != 0) = true := by simpa using h0
  have HM : Hid (pGradesM T r (cp, cm) = (er, [])) := by show _ = _; unfold pGradesM; rw [← her, if_pos h0]
  clear h0 her
  go_wp2
  go_ret2
  exact ⟨none, 0, 0, by rw [HM.out]; rfl, by rw [HM.out]; exact Cells.nil _ _, hB1⟩
 have h1 : (er != 0) = false := by simpa using h0
 have HPE : Hid (parE T = 0) := by show _ = _; rw [← her]; exact h0
 have c0 : w1.cell? ⟨bp, 0, none⟩ = some (.int .u32 cp) := cell_at_heap hk1 rfl
 have c1' : w1.cell? ⟨bp, 1, none⟩ = some (.int .u32 cm) := cell_at_heap hk1 rfl
 clear h0 her
 have HK1 := hI hk1; clear hk1
 go_wp2_with fail
 refine (r1Valid_c cp cm w1 HCP.out HCM.out).mono ?_
 obtain ⟨d, hd⟩ : ∃ d, d = fvalid cp cm := ⟨_, rfl⟩
 rw [← hd]
 rintro e w2 ⟨rfl, hb2⟩
 have hB2 := hB1.trans (hb2.mono hB1.size)
 have HK2 := hI ((hb2.block bp (lt_of_block HK1.out)).trans HK1.out)
 clear hb2 c0 c1' hB1
 cases d with
 | false =>
  have HM : Hid (pGradesM T r (cp, cm) = (14, [])) := by show _ = _; unfold pGradesM; rw [if_neg (by simp [HPE.out]), if_pos hd.symm]
  clear hd
  go_wp2
  go_ret2
  exact ⟨none, 0, 0, by rw [HM.out]; rfl, by rw [HM.out]; exact Cells.nil _ _, hB2⟩
 | true =>
  have HM : Hid (pGradesM T r (cp, cm) = if lineE T r ≠ 0 then (lineE T r, []) else (0, labelsM ((lineR T r).map (gradeF (cp, cm))))) := by show _ = _; unfold pGradesM; rw [if_neg (by simp [HPE.out]), if_neg (by rw [← hd]; decide)]
  clear hd
  have HB2 := hI hB2; clear hB2
  go_wp2_with fail
  refine (r29row_c A n c T r w2 (HX.out.below HB2.out rr) HU.out hr).mono ?_
  obtain ⟨er, her⟩ : ∃ er, er = lineE T r := ⟨_, rfl⟩
  rw [← her]
  rintro e w3 ⟨rfl, hb3⟩
  have HK3 := hI ((hb3.block bp (lt_of_block HK2.out)).trans HK2.out)
  have HB3 := hI (HB2.out.trans (hb3.mono HB2.out.size)); clear hb3
  by_cases h0 : er = 0
  case neg =>
   have h2 : (er != 0) = true := by simpa using h0
   have HM' : Hid (pGradesM T r (cp, cm) = (er, [])) := by show _ = _; rw [HM.out, ← her, if_pos h0]
   clear h0 her
   go_wp2
   go_ret2
   exact ⟨none, 0, 0, by rw [HM'.out]; rfl, by rw [HM'.out]; exact Cells.nil _ _, HB3.out⟩
  have h2 : (er != 0) = false := by simpa using h0
  have hle : lineE T r = 0 := her.symm.trans h0
  replace HM : Hid (pGradesM T r (cp, cm) = (0, labelsM ((lineR T r).map (gradeF (cp, cm))))) := by show _ = _; rw [HM.out, if_neg (by simpa using hle)]
  obtain ⟨_, hr0, hrn⟩ := line_in hle
  rw [HX.out.len] at hrn
  obtain ⟨k, rfl⟩ : ∃ k : Nat, r = k := ⟨r.toNat, by omega⟩
  clear h0 her hle hr hr0
  have hlt : k < n := by omega
  obtain ⟨b, off, A1, n1, c1, l, rfl, hb, hc0, hlk, hfl⟩ := HX.out.at_ hlt
  rw [row_at hlk] at HM
  have HR := hI (par_row HPE.out (List.mem_of_getElem? hlk))
  have HUR : Hid (∀ x ∈ l, WordU x.2) := HU.out l (List.mem_of_getElem? hlk)
  have hn16 : n1 ≤ 16 := by rw [← hfl.len]; exact HR.out.1
  have hm1 := hfl.max
  have HF := hI hfl
  have HC := hI hc0
  clear hfl hlk hc0
  go_wp2_with fail
  clear h1 h2
  go_loopw [10, 11] (fun u vj wr => ∃ (j : Nat) (fs : List FormR), vj = .int .i64 j ∧ j ≤ n1 ∧ fs.length = j ∧ Hid (FrmW wr w3.heap.size u fs) ∧ Hid (fs.map FormR.data = (l.take j).map (gradeF (cp, cm))) ∧ Hid (∀ f ∈ fs, ∀ ad, f.p.1 = some ad → w3.heap.size ≤ ad.block) ∧ Below w3.heap.size w3 wr) (fun _ vj _ => n1 - (intOf vj).toNat)
  case atStart => exact ⟨0, [], rfl, Nat.zero_le _, rfl, FrmW.nil _, by simp [Hid], (fun f hf => by cases hf), Below.refl _ _⟩
  case round =>
   obtain ⟨j, fs, rfl, hj, hfl, hfw, hda2, hfr, hB4⟩ := hrel
   have hB4s := hB4.size
   have hBB4 := HB3.out.trans (hB4.mono HB3.out.size)
   have hd0 := (hBB4.cell (p := ⟨b, off + k, none⟩) hb).trans HC.out
   by_cases hltj : j < n1
   ·have hj1 : (j : Int) < (n1 : Int) := by omega
    obtain ⟨b2, off2, h, A2, n2, c2, ws, rfl, hb2, e00, e10, hlj, hwj⟩ := HF.out.at_ hltj
    have e0 := (hBB4.cell (p := ⟨b2, off2 + j * 2, none⟩) hb2).trans e00
    have HE1 := hI e10
    have h40 : n2 ≤ 40 := by rw [← hwj.len]; exact HR.out.2.1 _ (List.mem_of_getElem? hlj)
    have HWU : Hid (WordU ws) := HUR.out _ (List.mem_of_getElem? hlj)
    have HLJ := hI hlj
    have HW := hI hwj
    clear hlj hwj e00 e10
    have hb1 : Below wr.heap.size wr (wr.alloc (.cells #[.bool h, .slice none 0 0] 77)) := bel
    have hbx : (wr.alloc (.cells #[.bool h, .slice none 0 0] 77)).heap[wr.heap.size]? = some (.cells #[.bool h, .slice none 0 0] 77 (0, 0)) := hpt
    have hVz : (wr.alloc (.cells #[.bool h, .slice none 0 0] 77)).heap.size = wr.heap.size + 1 := by simp
    go_wp2_with fail
    clear hd0 e0
    obtain ⟨wj, hwj⟩ : ∃ wj, wj = wr := ⟨_, rfl⟩
    rw [← hwj] at hfw hB4 hB4s hBB4 hb1 hbx hVz ⊢
    clear hwj
    generalize hV1 : (wj.alloc (.cells #[.bool h, .slice none 0 0] 77)) = V1 at *
    clear hV1
    obtain ⟨bx, hbxe⟩ : ∃ bx, bx = wj.heap.size := ⟨_, rfl⟩
    rw [← hbxe] at hbx hVz ⊢
    have hbxw : wj.heap.size ≤ bx := Nat.le_of_eq hbxe.symm
    clear hbxe
    have HB1 := hI hb1
    have HBX := hI hbx
    clear hb1 hbx
    go_loopw [13] (fun vq wr => ∃ (q m : Nat) (v8 : Value), vq = .int .i64 q ∧ q ≤ n2 ∧ m ≤ q ∧ Hid (wr.heap[bx]? = some (.cells #[.bool h, v8] 77 (0, 0))) ∧ Hid (wr.ownsRow V1.heap.size 24 2 v8 m (wcells ((ws.take q).filter fun s => fsat s.1 s.2 cp cm))) ∧ V1.heap.size ≤ wr.heap.size ∧ Below wj.heap.size wj wr) (fun vq _ => n2 - (intOf vq).toNat)
    case atStart => exact ⟨0, 0, .slice none 0 0, rfl, Nat.zero_le _, rr, HBX.out, World.ownsRow_nil _ _ _ _, rr, HB1.out⟩
    case round =>
     obtain ⟨q, m, v8, rfl, hq, hmq, hbx, hown, hVr, hB5⟩ := hrel
     have hB5s := hB5.size
     have hBB5 := HB3.out.trans ((hB4.trans (hB5.mono hB4s)).mono HB3.out.size)
     have hd0 := (hBB5.cell (p := ⟨b, off + k, none⟩) hb).trans HC.out
     have e1 := (hBB5.cell (p := ⟨b2, off2 + j * 2 + 1, none⟩) hb2).trans HE1.out
     by_cases hltq : q < n2
     ·have hq1 : (q : Int) < (n2 : Int) := by omega
      obtain ⟨b6, off6, p, m6, rfl, hb6w, hxq, hx00, hx10⟩ := HW.out.at_ hltq
      have hx0 := (hBB5.cell (p := ⟨b6, off6 + q * 2, none⟩) hb6w).trans hx00
      have hx1 := (hBB5.cell (p := ⟨b6, off6 + q * 2 + 1, none⟩) hb6w).trans hx10
      clear hx00 hx10
      have hwsz : w.heap.size ≤ wj.heap.size := hBB4.size
      have hwsz2 : w.heap.size ≤ wr.heap.size := hBB5.size
      have HK5 := hI (((hB4.trans (hB5.mono hB4s)).block bp (lt_of_block HK3.out)).trans HK3.out)
      have c0 : wr.cell? ⟨bp, 0, none⟩ = some (.int .u32 cp) := cell_at_heap HK5.out rfl
      have c1' : wr.cell? ⟨bp, 1, none⟩ = some (.int .u32 cm) := cell_at_heap HK5.out rfl
      obtain ⟨hup, hum⟩ : U32 p ∧ U32 m6 := HWU.out (p, m6) (List.mem_of_getElem? hxq)
      have HFS := hI (filter_snoc (p := fun s : Snd => fsat s.1 s.2 cp cm) hxq)
      clear hxq
      obtain ⟨A8, c8, rfl⟩ := own_form hown.out
      have hb6r : b6 < wr.heap.size := by omega
      have hbr : b < wr.heap.size := by omega
      have hb2r : b2 < wr.heap.size := by omega
      have hbpr := lt_of_block HK5.out
      have hbxr := lt_of_block hbx.out
      go_wp2_with fail
      refine plain_region (fun W' => W'.cell? ⟨b, off + k, none⟩ = some (.slice (some ⟨b2, off2, none⟩) n1 c1) ∧ W'.cell? ⟨b2, off2 + j * 2 + 1, none⟩ = some (.slice (some ⟨b6, off6, none⟩) n2 c2) ∧ W'.cell? ⟨b6, off6 + q * 2, none⟩ = some (.int .u32 p) ∧ W'.cell? ⟨b6, off6 + q * 2 + 1, none⟩ = some (.int .u32 m6) ∧ W'.cell? ⟨bp, 0, none⟩ = some (.int .u32 cp) ∧ W'.cell? ⟨bp, 1, none⟩ = some (.int .u32 cm)) (by kernel_rfl) ⟨hd0, e1, hx0, hx1, c0, c1'⟩ (fun hHeld => ?_)
      (refine' anyT_tk 0 rfl ?_; (try simp only [Act.put, nA, nB, nC, nD, nE, nF])); (refine' anyT_tk 1 rfl ?_; (try simp only [Act.put, nA, nB, nC, nD, nE, nF])); (refine' anyT_tk 2 rfl ?_; (try simp only [Act.put, nA, nB, nC, nD, nE, nF])); (refine' anyT_tk 3 rfl ?_; (try simp only [Act.put, nA, nB, nC, nD, nE, nF])); (refine' anyT_tk 4 rfl ?_; (try simp only [Act.put, nA, nB, nC, nD, nE, nF])); (refine' anyT_tk 5 rfl ?_; (try simp only [Act.put, nA, nB, nC, nD, nE, nF])); (refine' anyT_tk 6 rfl ?_; (try simp only [Act.put, nA, nB, nC, nD, nE, nF])); (refine' anyT_tk 7 rfl ?_; (try simp only [Act.put, nA, nB, nC, nD, nE, nF])); (refine' anyT_tk 8 rfl ?_; (try simp only [Act.put, nA, nB, nC, nD, nE, nF])); (refine' anyT_tk 9 rfl ?_; (try simp only [Act.put, nA, nB, nC, nD, nE, nF])); (refine' anyT_tk 10 rfl ?_; (try simp only [Act.put, nA, nB, nC, nD, nE, nF])); (refine' anyT_tk 11 rfl ?_; (try simp only [Act.put, nA, nB, nC, nD, nE, nF]))
      (refine anyT_step (i := 12) (by kernel_rfl) rfl (fun K' hK' => ?_); simp only [List.getElem_toArray, List.getElem_cons_zero, List.getElem_cons_succ]; go_simp)
      have hd5 : Below wr.heap.size wr wr.drew := (Below.refl wr.heap.size wr).drew
      refine (r1Sat_c p m6 cp cm wr.drew hup hum HCP.out HCM.out).mono ?_
      obtain ⟨d, hd⟩ : ∃ d, d = fsat p m6 cp cm := ⟨_, rfl⟩
      rw [← hd]
      have HD := hI hd; clear hd
      rintro e w6 ⟨rfl, hb6'⟩
      rw [World.size_drew] at hb6'
      have hb6 := hd5.trans hb6'
      refine hK' _ _ ⟨.inl (by kernel_rfl), fun _ => anyT_done (by kernel_rfl) ?_ _⟩
      clear hK' K' hHeld hb6' hd5 c0 c1'
      (try simp only [Act.put, nA, nB, nC, nD, nE, nF])
      replace hd0 := (hb6.cell (p := ⟨b, off + k, none⟩) hbr).trans hd0
      replace e1 := (hb6.cell (p := ⟨b2, off2 + j * 2 + 1, none⟩) hb2r).trans e1
      replace hx0 := (hb6.cell (p := ⟨b6, off6 + q * 2, none⟩) hb6r).trans hx0
      replace hx1 := (hb6.cell (p := ⟨b6, off6 + q * 2 + 1, none⟩) hb6r).trans hx1
      have hbx6 := (hb6.block bx hbxr).trans hbx.out
      have hown6 := own_heap hown.out fun k e => hb6.block k (hown.out.lt k e).2
      have hB6 := hB5.trans (hb6.mono hB5s)
      have hVr6 := Nat.le_trans hVr hb6.size
      clear hbx hown hB5 hb6 hBB5 HK5 hB5s hVr
      have hB6s := hB6.size
      cases d with
      | false =>
       have HN : Hid ((ws.take (q + 1)).filter (fun s => fsat s.1 s.2 cp cm) = (ws.take q).filter (fun s => fsat s.1 s.2 cp cm)) := by
        show _ = _; rw [HFS.out, if_neg (by show ¬ fsat p m6 cp cm = true; rw [← HD.out]; decide), List.append_nil]
       have HO : Hid (w6.ownsRow V1.heap.size 24 2 (.slice A8 m c8) m (wcells ((ws.take (q + 1)).filter fun s => fsat s.1 s.2 cp cm))) := by show World.ownsRow _ _ _ _ _ _ _; rw [HN.out]; exact hown6
       have HBX6 := hI hbx6
       clear hown6 hbx6 hd0 e1 hx0 hx1
       go_wp2
       go_roundw
       case rel => exact ⟨q + 1, m, _, by go_num, by omega, by omega, HBX6.out, HO.out, hVr6, hB6⟩
       case measure => simp [intOf]; omega
      | true =>
       have HN : Hid ((ws.take (q + 1)).filter (fun s => fsat s.1 s.2 cp cm) = (ws.take q).filter (fun s => fsat s.1 s.2 cp cm) ++ [(p, m6)]) := by
        show _ = _; rw [HFS.out, if_pos (by show fsat p m6 cp cm = true; rw [← HD.out])]
       have k1 : w6.cell? ⟨bx, 1, none⟩ = some (.slice A8 m c8) := cell_at_heap hbx6 rfl
       have HBX6 := hI hbx6
       have HOW6 := hI hown6
       have HKS := hI (And.intro k1 (And.intro hd0 (And.intro e1 (And.intro hx0 hx1))))
       clear hown6 hbx6 hd0 e1 hx0 hx1 k1
       go_wp2_with fail
       refine plain_region (fun W' => W'.cell? ⟨bx, 1, none⟩ = some (.slice A8 m c8) ∧ W'.cell? ⟨b, off + k, none⟩ = some (.slice (some ⟨b2, off2, none⟩) n1 c1) ∧ W'.cell? ⟨b2, off2 + j * 2 + 1, none⟩ = some (.slice (some ⟨b6, off6, none⟩) n2 c2) ∧ W'.cell? ⟨b6, off6 + q * 2, none⟩ = some (.int .u32 p) ∧ W'.cell? ⟨b6, off6 + q * 2 + 1, none⟩ = some (.int .u32 m6)) (by kernel_rfl) HKS.out (fun hHeld => ?_)
       (refine' anyT_tk 0 rfl ?_; (try simp only [Act.put, nA, nB, nC, nD, nE, nF])); (refine' anyT_tk 1 rfl ?_; (try simp only [Act.put, nA, nB, nC, nD, nE, nF])); (refine' anyT_tk 2 rfl ?_; (try simp only [Act.put, nA, nB, nC, nD, nE, nF])); (refine' anyT_tk 3 rfl ?_; (try simp only [Act.put, nA, nB, nC, nD, nE, nF])); (refine' anyT_tk 4 rfl ?_; (try simp only [Act.put, nA, nB, nC, nD, nE, nF])); (refine' anyT_tk 5 rfl ?_; (try simp only [Act.put, nA, nB, nC, nD, nE, nF])); (refine' anyT_tk 6 rfl ?_; (try simp only [Act.put, nA, nB, nC, nD, nE, nF])); (refine' anyT_tk 7 rfl ?_; (try simp only [Act.put, nA, nB, nC, nD, nE, nF])); (refine' anyT_tk 8 rfl ?_; (try simp only [Act.put, nA, nB, nC, nD, nE, nF])); (refine' anyT_tk 9 rfl ?_; (try simp only [Act.put, nA, nB, nC, nD, nE, nF])); (refine' anyT_tk 10 rfl ?_; (try simp only [Act.put, nA, nB, nC, nD, nE, nF])); (refine' anyT_tk 11 rfl ?_; (try simp only [Act.put, nA, nB, nC, nD, nE, nF])); (refine' anyT_tk 12 rfl ?_; (try simp only [Act.put, nA, nB, nC, nD, nE, nF]))
       (refine anyT_step (i := 13) (by kernel_rfl) rfl (fun K' hK' => ?_); simp only [List.getElem_toArray, List.getElem_cons_zero, List.getElem_cons_succ]; go_simp)
       have hb7 : Below w6.heap.size w6 (w6.alloc (.cells #[.int .u32 p, .int .u32 m6] 24)).drew := ((Below.refl w6.heap.size w6).alloc rr _).drew
       have hw1 : IsWord (w6.alloc (.cells #[.int .u32 p, .int .u32 m6] 24)).drew (some ⟨w6.heap.size, 0, none⟩) 1 1 [(p, m6)] := IsWord.below (word_one w6 p m6 24) ((Below.refl _ _).drew) rr
       have hS7 : (w6.alloc (.cells #[.int .u32 p, .int .u32 m6] 24)).drew.cell? ⟨bx, 1, none⟩ = some (.slice A8 m c8) ∧ (w6.alloc (.cells #[.int .u32 p, .int .u32 m6] 24)).drew.cell? ⟨b, off + k, none⟩ = some (.slice (some ⟨b2, off2, none⟩) n1 c1) ∧ (w6.alloc (.cells #[.int .u32 p, .int .u32 m6] 24)).drew.cell? ⟨b2, off2 + j * 2 + 1, none⟩ = some (.slice (some ⟨b6, off6, none⟩) n2 c2) ∧ (w6.alloc (.cells #[.int .u32 p, .int .u32 m6] 24)).drew.cell? ⟨b6, off6 + q * 2, none⟩ = some (.int .u32 p) ∧ (w6.alloc (.cells #[.int .u32 p, .int .u32 m6] 24)).drew.cell? ⟨b6, off6 + q * 2 + 1, none⟩ = some (.int .u32 m6) := ⟨(hb7.cell (p := ⟨bx, 1, none⟩) (lt_of_block HBX6.out)).trans HKS.out.1, (hb7.cell (p := ⟨b, off + k, none⟩) (by dsimp only; omega)).trans HKS.out.2.1, (hb7.cell (p := ⟨b2, off2 + j * 2 + 1, none⟩) (by dsimp only; omega)).trans HKS.out.2.2.1, (hb7.cell (p := ⟨b6, off6 + q * 2, none⟩) (by dsimp only; omega)).trans HKS.out.2.2.2.1, (hb7.cell (p := ⟨b6, off6 + q * 2 + 1, none⟩) (by dsimp only; omega)).trans HKS.out.2.2.2.2⟩
       refine hK' _ _ ⟨.inr hS7, fun _ => ?_⟩
       clear hK' K' hHeld hS7
       (try simp only [Act.put, nA, nB, nC, nD, nE, nF])
       generalize hV7 : (w6.alloc (.cells #[.int .u32 p, .int .u32 m6] 24)).drew = V7 at *
       clear hV7
       refine anyT_step (i := 14) (by kernel_rfl) rfl (fun K' hK' => ?_)
       rw [if_pos (by rfl)]
       have hown7 := own_heap HOW6.out fun k e => hb7.block k (HOW6.out.lt k e).2
       refine wp_append_snd (.tmp 73) (.tmp 85) rfl V1.heap.size (.slice A8 m c8) m ((ws.take q).filter fun s => fsat s.1 s.2 cp cm) (by rfl) hown7 (some ⟨w6.heap.size, 0, none⟩) 1 1 [(p, m6)] (by rfl) hw1 (by omega) (by have := hb7.size; omega) ?_
       intro v8 w8 hown8 hg8
       rw [← HN.out] at hown8
       have hb8 : Below V1.heap.size w6 w8 := own_below (hb7.mono hVr6) hown7 hg8 rr (by have := hb7.size; omega)
       have hbxV : bx < V1.heap.size := by omega
       have hx8 := (hb8.block bx hbxV).trans HBX6.out
       obtain ⟨A9, c9, rfl⟩ := own_form hown8
       have m0 : w8.cell? ⟨bx, 1, none⟩ = some (.slice A8 m c8) := cell_at_heap hx8 rfl
       have m1 : w8.frozen? ⟨bx, 1, none⟩ = false := frozen_of_row w8 bx 1 _ _ hx8
       have hS8 : w8.cell? ⟨bx, 1, none⟩ = some (.slice A8 m c8) ∧ w8.cell? ⟨b, off + k, none⟩ = some (.slice (some ⟨b2, off2, none⟩) n1 c1) ∧ w8.cell? ⟨b2, off2 + j * 2 + 1, none⟩ = some (.slice (some ⟨b6, off6, none⟩) n2 c2) ∧ w8.cell? ⟨b6, off6 + q * 2, none⟩ = some (.int .u32 p) ∧ w8.cell? ⟨b6, off6 + q * 2 + 1, none⟩ = some (.int .u32 m6) := ⟨m0, (hb8.cell (p := ⟨b, off + k, none⟩) (by dsimp only; omega)).trans HKS.out.2.1, (hb8.cell (p := ⟨b2, off2 + j * 2 + 1, none⟩) (by dsimp only; omega)).trans HKS.out.2.2.1, (hb8.cell (p := ⟨b6, off6 + q * 2, none⟩) (by dsimp only; omega)).trans HKS.out.2.2.2.1, (hb8.cell (p := ⟨b6, off6 + q * 2 + 1, none⟩) (by dsimp only; omega)).trans HKS.out.2.2.2.2⟩
       refine hK' _ _ ⟨.inr hS8, fun _ => ?_⟩
       clear hK' K' hg8 hown7 hw1
       (try simp only [Act.put, nA, nB, nC, nD, nE, nF])
       (refine' anyT_tk 15 rfl ?_; (try simp only [Act.put, nA, nB, nC, nD, nE, nF]))
       (refine anyT_step (i := 16) (by kernel_rfl) rfl (fun K' hK' => ?_); simp only [List.getElem_toArray, List.getElem_cons_zero, List.getElem_cons_succ]; go_simp)
       refine hK' _ _ ⟨.inl (by kernel_rfl), fun _ => anyT_done (by kernel_rfl) ?_ _⟩
       clear hK' K' hS8
       have hx9 : (w8.setCell ⟨bx, 1, none⟩ (.slice A9 (m + 1) c9)).heap[bx]? = some (.cells #[.bool h, .slice A9 (m + 1) c9] 77 (0, 0)) := heap_setCell_same hx8
       have hkx : Keep (fun k => k = bx) w8 (w8.setCell ⟨bx, 1, none⟩ (.slice A9 (m + 1) c9)) := (Keep.refl (fun k => k = bx) w8).setCell (p := ⟨bx, 1, none⟩) rfl _
       have hown9 := own_heap hown8 fun e he => hkx.block e (hown8.lt e he).2 (fun h3 => by have h4 := (hown8.lt e he).1; have h5 : e = bx := h3; omega)
       have hB9 : Below wj.heap.size wj (w8.setCell ⟨bx, 1, none⟩ (.slice A9 (m + 1) c9)) := (hB6.trans (hb8.mono (by omega))).setCell (p := ⟨bx, 1, none⟩) hbxw _
       have hVr9 : V1.heap.size ≤ (w8.setCell ⟨bx, 1, none⟩ (.slice A9 (m + 1) c9)).heap.size := by have := hb8.size; simp; omega
       have HX9 := hI hx9
       have HO9 := hI hown9
       clear hx9 hkx hown9 hown8 hx8 m0 m1 hb8 hb7
       go_wp2
       go_roundw
       case rel => exact ⟨q + 1, m + 1, _, by go_num, by omega, by omega, HX9.out, HO9.out, hVr9, hB9⟩
       case measure => simp [intOf]; omega
     ·have hq1 : ¬ (q : Int) < (n2 : Int) := by omega
      have HFT : Hid ((ws.take q).filter (fun s => fsat s.1 s.2 cp cm) = ws.filter fun s => fsat s.1 s.2 cp cm) := by show _ = _; rw [List.take_of_length_le (by rw [HW.out.len]; omega)]
      obtain ⟨A8, c8, rfl⟩ := own_form hown.out
      have hw8 : IsWord wr A8 m c8 (ws.filter fun s => fsat s.1 s.2 cp cm) := by rw [← HFT.out]; exact Cells.of_own hown.out (by decide)
      have hf8 : ∀ ad, A8 = some ad → wj.heap.size ≤ ad.block := fun ad had => by have := own_addr hown.out ad had; omega
      have hk0 : wr.cell? ⟨bx, 0, none⟩ = some (.bool h) := cell_at_heap hbx.out rfl
      have hk1 : wr.cell? ⟨bx, 1, none⟩ = some (.slice A8 m c8) := cell_at_heap hbx.out rfl
      have hba : Below wr.heap.size wr (wr.alloc (.cells #[.bool h, .slice A8 m c8] 77)) := bel
      have hz2 : (wr.alloc (.cells #[.bool h, .slice A8 m c8] 77)).heap[wr.heap.size]? = some (.cells #[.bool h, .slice A8 m c8] 77 (0, 0)) := hpt
      have HFW1 := hI (hfw.out.below (hB5.trans (hba.mono hB5s)))
      have HAW : Hid (Away u10 (wr.alloc (.cells #[.bool h, .slice A8 m c8] 77)) (A8, m, c8, ws.filter fun s => fsat s.1 s.2 cp cm)) := hfw.out.fresh (q := (A8, m, c8, ws.filter fun s => fsat s.1 s.2 cp cm)) (hw8.below hba rr) hf8
      have HDN : Hid ((fs ++ [(⟨h, (A8, m, c8, ws.filter fun s => fsat s.1 s.2 cp cm)⟩ : FormR)]).map FormR.data = (l.take (j + 1)).map (gradeF (cp, cm))) := by show _ = _; rw [take_snoc' l j _ HLJ.out, List.map_append, List.map_append, hda2.out]; rfl
      have HFR : Hid (∀ f' ∈ fs ++ [(⟨h, (A8, m, c8, ws.filter fun s => fsat s.1 s.2 cp cm)⟩ : FormR)], ∀ ad, f'.p.1 = some ad → w3.heap.size ≤ ad.block) := fun f' hf' ad had => by
       rcases List.mem_append.1 hf' with h1 | h1
       ·exact hfr.out f' h1 ad had
       ·obtain rfl : f' = ⟨h, (A8, m, c8, ws.filter fun s => fsat s.1 s.2 cp cm)⟩ := by simpa using h1
        exact Nat.le_trans hB4s (hf8 ad had)
      have HB6 : Hid (Below w3.heap.size w3 (wr.alloc (.cells #[.bool h, .slice A8 m c8] 77))) := hB4.trans ((hB5.trans (hba.mono hB5s)).mono hB4s)
      have hfl' : fs.length ≤ 16 := by omega
      have HFL := hI hfl
      have HZ2 := hI hz2
      obtain ⟨fw, hfwe⟩ : ∃ fw, fw = ws.filter fun s => fsat s.1 s.2 cp cm := ⟨_, rfl⟩
      rw [← hfwe] at HAW HDN HFR
      clear hba hfl hz2 hw8 hf8 hown hbx HFT hfwe
      go_wp2_with (at_builtin; refine append_frm rfl (.tmp 88) (.tmp 90) rfl w3.heap.size u10 fs.length (fs.flatMap FormR.cells) rfl HFW1.out.own ⟨wr.heap.size, 0, none⟩ 1 ⟨h, (A8, m, c8, fw)⟩ rfl (form_cells HZ2.out) ?hl ?hz ?hc)
      case hl => omega
      case hz => simpa using HB6.out.size
      case hc =>
       intro v9 X9 hown9 hg9 hat9
       have HFW9 := hI (HFW1.out.push HAW.out hown9 hg9 (by simpa using hat9))
       have hB9 : Below w3.heap.size w3 X9 := own_below HB6.out HFW1.out.own hg9 rr HB6.out.size
       clear hown9 hg9 hat9
       go_wp2
       go_roundw
       case rel => exact ⟨j + 1, _, by go_num, by omega, by rw [List.length_append, HFL.out]; rfl, HFW9.out, HDN.out, HFR.out, hB9⟩
       case measure => simp [intOf]; omega
   ·have hj1 : ¬ ((j : Int) < (n1 : Int)) := by omega
    have HDF : Hid (fs.map FormR.data = l.map (gradeF (cp, cm))) := by show _ = _; rw [hda2.out, List.take_of_length_le (by rw [HF.out.len]; omega)]
    obtain ⟨A8, c8, hv8⟩ := own_form hfw.out.own
    subst hv8
    have hip := hfw.out.forms rfl
    rw [HDF.out, hfl] at hip
    have HIP := hI hip; clear hip
    go_wp2_with fail
    refine (r29labels_c A8 j c8 _ wr HIP.out (by omega)).mono ?_
    rintro e w9 ⟨A9, n9, c9, rfl, hi9, hb9⟩
    have hB9 := hBB4.trans (hb9.mono hBB4.size)
    have HI9 := hI hi9; clear hi9 hb9
    go_wp2
    go_ret2
    exact ⟨A9, n9, c9, by rw [HM.out]; rfl, by rw [HM.out]; exact HI9.out, hB9⟩
end Go.Proofs.YtcpcojgmmpnkoaaGreatDoor

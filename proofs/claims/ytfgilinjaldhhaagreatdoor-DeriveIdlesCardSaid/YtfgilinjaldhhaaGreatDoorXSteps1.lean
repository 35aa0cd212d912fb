/-
  derive.Steps.
-/
import Derived.Test.YtfgilinjaldhhaaGreatDoorG22
import Derived.Test.YtfgilinjaldhhaaGreatDoorG19
set_option linter.unusedVariables false
set_option linter.unusedSimpArgs false
set_option maxRecDepth 100000
set_option maxHeartbeats 4000000
namespace Go.Proofs.YtfgilinjaldhhaaGreatDoor
open Go.RowKit Go.Shelf
theorem step_info : (Tryz.prog.info? 65).map (fun i => (i.zero, i.size, i.bytes)) = some (some (.agg #[.int .i64 0, .slice none 0 0, .slice none 0 0]), 3, 56) := by kernel_rfl
theorem steps_cF (A : Option Addr) (n c : Nat) (xs : List LawR) (Aw : Option Addr) (nw cw : Nat) (ws : List Snd) (w : World) (hx : IsLaws w A n c xs) (hw : IsWord w Aw nw cw ws) (hT : TabOK w) :
  Calls Tryz.prog 33 #[.slice A n c, .slice Aw nw cw] w (RetStepsF w (stepsM (lawsD xs) ws)) := by
 have hmx := hx.max
 have HX := hI hx; clear hx
 have HW := hI hw; clear hw
 have HT := hI hT; clear hT
 go_enter Tryz.func33, Tryz.ntmps33
 go_wp2_with fail
 refine (forms_all A n c xs Aw nw cw ws w HX.out HW.out HT.out).mono ?_
 rintro e w1 ⟨A1, n1, c1, rfl, hw1, hB1⟩
 have HB1 := hI hB1; clear hB1
 obtain ⟨er, her⟩ : ∃ er, er = (formsE (lawsD xs) ws).1 := ⟨_, rfl⟩
 rw [← her]
 by_cases h0 : er = 0
 case neg =>
  have HM : Hid (stepsM (lawsD xs) ws = (er, [])) := by show stepsM _ _ = _; unfold stepsM; rw [← her, if_pos h0]
  have h1 : (er != 0) = true := by simpa using h0
  clear hw1 her h0
  go_wp2
  go_ret2
  exact ⟨none, 0, 0, [], by rw [HM.out]; rfl, by rw [HM.out]; rfl, ⟨⟨Cells.nil _ _, rfl⟩, fun s hs => by simp at hs⟩, HB1.out, fun ad h => by cases h⟩
 subst h0
 obtain ⟨fs, hfs⟩ : ∃ fs, fs = (formsE (lawsD xs) ws).2 := ⟨_, rfl⟩
 rw [← hfs] at hw1
 have HLN : Hid ((lawsD xs).length = n) := by show (lawsD xs).length = n; rw [lawsD, List.length_map]; exact HX.out.len
 have hfl : fs.length = n + 1 := by rw [hfs, formsE_full her.symm, HLN.out]
 obtain rfl : n1 = n + 1 := by rw [← hfl]; exact hw1.len.symm
 have hz := formsE_zero her.symm
 have hn64 : n ≤ 64 := by have h1 := (lawsE_all (chk_laws hz.1)).1; have h2 := HLN.out; omega
 have HSH : Hid (∀ x ∈ fs, x.length ≤ 32) := by show ∀ x ∈ fs, x.length ≤ 32; rw [hfs, hz.2.2]; exact formsM_short _ _ (chk_len hz.1)
 have HM : Hid (stepsM (lawsD xs) ws = (0, stepsL fs n)) := by show stepsM _ _ = _; unfold stepsM; rw [← her, if_neg (by decide), ← hfs, HLN.out]
 have HFL := hI hfl; clear hfl hz her hfs
 obtain ⟨b, off, rfl, hb1⟩ := hw1.shape (Nat.succ_pos n)
 have HW1 := hI hw1; clear hw1
 go_wp2
 go_loopw [8, 21] (fun v i wr => ∃ (j : Nat) (ss : List StepR), i = .int .i64 j ∧ j ≤ n ∧ Hid (ss.map StepR.data = stepsL fs j) ∧ Hid (StepsOK wr w1.heap.size v ss) ∧ Below w1.heap.size w1 wr) (fun _ i _ => n - (intOf i).toNat)
 case atStart => exact ⟨0, [], rfl, Nat.zero_le _, rfl, StepsOK.nil w1, Below.refl _ _⟩
 case round =>
  obtain ⟨j, ss, rfl, hj, hss, hok, hB⟩ := hrel
  have hBs := hB.size
  by_cases hlt : j < n
  ·obtain ⟨Aj, nj, cj, xj, hcj, hxj, hwj⟩ := (HW1.out.below hB rr).cell_at (k := j) (by omega)
   obtain ⟨Am, nm, cm, xm, hcm, hxm, hwm⟩ := (HW1.out.below hB rr).cell_at (k := j + 1) (by omega)
   have HWj := hI hwj; clear hwj
   have HWm := hI hwm; clear hwm
   have hnj : nj ≤ 32 := by rw [← HWj.out.len]; exact HSH.out _ (List.mem_of_getElem? hxj)
   have hnm : nm ≤ 32 := by rw [← HWm.out.len]; exact HSH.out _ (List.mem_of_getElem? hxm)
   have HAT : Hid (stepAt fs j = if xj = xm then [] else [(j, xj, xm)]) := by show stepAt fs j = _; unfold stepAt; rw [getD_of hxj, getD_of hxm]
   clear hxj hxm
   have hbr : b < wr.heap.size := Nat.lt_of_lt_of_le hb1 hBs
   have hj1 : (j : Int) < (n : Int) := by omega
   have hj2 : (j : Int) < (n : Int) + 1 := by omega
   have hj3 : (j : Int) + 1 < (n : Int) + 1 := by omega
   have hjw : IntKind.i64.wrap ((j : Int) + 1) = (j : Int) + 1 := IntWalk.i64_in _ (by omega)
   have hj0 : (0 : Int) ≤ (j : Int) + 1 := by omega
   go_wp2
   refine plain_region (fun W' => W'.cell? ⟨b, off + j, none⟩ = some (.slice Aj nj cj) ∧ W'.cell? ⟨b, off + (j + 1), none⟩ = some (.slice Am nm cm)) (by kernel_rfl) ⟨hcj, hcm⟩ (fun hHeld => ?_)
   (refine' anyT_tk 0 rfl ?_; (try simp only [Act.put, nA, nB, nC, nD, nE, nF])); (refine' anyT_tk 1 rfl ?_; (try simp only [Act.put, nA, nB, nC, nD, nE, nF])); (refine' anyT_tk 2 rfl ?_; (try simp only [Act.put, nA, nB, nC, nD, nE, nF])); (refine' anyT_tk 3 rfl ?_; (try simp only [Act.put, nA, nB, nC, nD, nE, nF])); (refine' anyT_tk 4 rfl ?_; (try simp only [Act.put, nA, nB, nC, nD, nE, nF])); (refine' anyT_tk 5 rfl ?_; (try simp only [Act.put, nA, nB, nC, nD, nE, nF])); (refine' anyT_tk 6 rfl ?_; (try simp only [Act.put, nA, nB, nC, nD, nE, nF])); (refine' anyT_tk 7 rfl ?_; (try simp only [Act.put, nA, nB, nC, nD, nE, nF])); (refine' anyT_tk 8 rfl ?_; (try simp only [Act.put, nA, nB, nC, nD, nE, nF]))
   (refine anyT_step (i := 9) (by kernel_rfl) rfl (fun K' hK' => ?_); simp only [List.getElem_toArray, List.getElem_cons_zero, List.getElem_cons_succ]; go_simp)
   refine (wEqual_c Aj Am nj nm cj cm xj xm _ (HWj.out.below (B := wr.heap.size) ((Below.refl wr.heap.size wr).drew) rr) (HWm.out.below (B := wr.heap.size) ((Below.refl wr.heap.size wr).drew) rr)).mono ?_
   rintro e w2 ⟨rfl, hb2'⟩
   have hb2 : Below wr.heap.size wr w2 := (Below.refl wr.heap.size wr).drew.trans hb2'
   have hS2 : w2.cell? ⟨b, off + j, none⟩ = some (.slice Aj nj cj) ∧ w2.cell? ⟨b, off + (j + 1), none⟩ = some (.slice Am nm cm) := ⟨(hb2.cell (p := ⟨b, off + j, none⟩) hbr).trans hcj, (hb2.cell (p := ⟨b, off + (j + 1), none⟩) hbr).trans hcm⟩
   refine hK' _ _ ⟨.inr hS2, fun _ => ?_⟩
   clear hK' K' hb2' hHeld hcj hcm
   have hB2 : Below w1.heap.size w1 w2 := hB.trans (hb2.mono hBs)
   have hok2 : Hid (StepsOK w2 w1.heap.size u8 ss) := hok.out.below hb2
   have HWj2 := hI (HWj.out.below hb2 rr); clear HWj
   have HWm2 := hI (HWm.out.below hb2 rr); clear HWm
   have hbr2 : b < w2.heap.size := Nat.lt_of_lt_of_le hbr hb2.size
   clear hok hb2
   (try simp only [Act.put, nA, nB, nC, nD, nE, nF])
   (refine anyT_step (i := 10) (by kernel_rfl) rfl (fun K' hK' => ?_); simp only [List.getElem_toArray, List.getElem_cons_zero, List.getElem_cons_succ]; go_simp)
   refine hK' _ _ ⟨.inl (by kernel_rfl), fun _ => anyT_done (by kernel_rfl) ?_ _⟩
   clear hK' K'
   obtain ⟨d, hd⟩ : ∃ d, d = decide (xj = xm) := ⟨_, rfl⟩
   rw [← hd]
   cases d
   case true =>
    have hxx : xj = xm := of_decide_eq_true hd.symm
    have HS : Hid (ss.map StepR.data = stepsL fs (j + 1)) := by show _ = _; rw [stepsL_succ, HAT.out, if_pos hxx, List.append_nil]; exact hss.out
    clear hd hxx hss HAT
    go_wp2
    go_roundw
    case rel => exact ⟨j + 1, ss, by go_num, by omega, HS, hok2, hB2⟩
    case measure => simp [intOf]; omega
   case false =>
    have hxx : ¬ xj = xm := of_decide_eq_false hd.symm
    have HS : Hid ((ss.map StepR.data) ++ [(j, xj, xm)] = stepsL fs (j + 1)) := by show _ = _; rw [stepsL_succ, HAT.out, if_neg hxx, hss.out]
    have hsl : ss.length ≤ 64 := by have h1 := stepsL_len fs j; rw [← hss.out, List.length_map] at h1; omega
    clear hd hxx hss HAT
    obtain ⟨hS2a, hS2b⟩ := hS2
    go_wp2
    refine plain_region (fun W' => W'.cell? ⟨b, off + j, none⟩ = some (.slice Aj nj cj) ∧ W'.cell? ⟨b, off + (j + 1), none⟩ = some (.slice Am nm cm)) (by kernel_rfl) ⟨hS2a, hS2b⟩ (fun hHeld => ?_)
    (refine' anyT_tk 0 rfl ?_; (try simp only [Act.put, nA, nB, nC, nD, nE, nF])); (refine' anyT_tk 1 rfl ?_; (try simp only [Act.put, nA, nB, nC, nD, nE, nF])); (refine' anyT_tk 2 rfl ?_; (try simp only [Act.put, nA, nB, nC, nD, nE, nF])); (refine' anyT_tk 3 rfl ?_; (try simp only [Act.put, nA, nB, nC, nD, nE, nF])); (refine' anyT_tk 4 rfl ?_; (try simp only [Act.put, nA, nB, nC, nD, nE, nF])); (refine' anyT_tk 5 rfl ?_; (try simp only [Act.put, nA, nB, nC, nD, nE, nF])); (refine' anyT_tk 7 rfl ?_; (try simp only [Act.put, nA, nB, nC, nD, nE, nF])); (refine' anyT_tk 8 rfl ?_; (try simp only [Act.put, nA, nB, nC, nD, nE, nF])); (refine' anyT_tk 9 rfl ?_; (try simp only [Act.put, nA, nB, nC, nD, nE, nF])); (refine' anyT_tk 10 rfl ?_; (try simp only [Act.put, nA, nB, nC, nD, nE, nF])); (refine' anyT_tk 11 rfl ?_; (try simp only [Act.put, nA, nB, nC, nD, nE, nF]))
    (refine anyT_step (i := 6) (by kernel_rfl) rfl (fun K' hK' => ?_); simp only [List.getElem_toArray, List.getElem_cons_zero, List.getElem_cons_succ]; go_simp)
    refine (clone_c Aj nj cj xj _ (HWj2.out.below (B := w2.heap.size) ((Below.refl w2.heap.size w2).drew) rr) (by omega)).mono ?_
    rintro e w3 ⟨A3, n3, c3, rfl, hw3, hb3', hf3'⟩
    have hf3 : ∀ ad, A3 = some ad → w2.heap.size ≤ ad.block := hf3'
    clear hf3'
    have hb3 : Below w2.heap.size w2 w3 := (Below.refl w2.heap.size w2).drew.trans hb3'
    have hS3 : w3.cell? ⟨b, off + j, none⟩ = some (.slice Aj nj cj) ∧ w3.cell? ⟨b, off + (j + 1), none⟩ = some (.slice Am nm cm) := ⟨(hb3.cell (p := ⟨b, off + j, none⟩) hbr2).trans hS2a, (hb3.cell (p := ⟨b, off + (j + 1), none⟩) hbr2).trans hS2b⟩
    refine hK' _ _ ⟨.inr hS3, fun _ => ?_⟩
    clear hK' K' hb3' hHeld
    (try simp only [Act.put, nA, nB, nC, nD, nE, nF])
    (refine anyT_step (i := 12) (by kernel_rfl) rfl (fun K' hK' => ?_); simp only [List.getElem_toArray, List.getElem_cons_zero, List.getElem_cons_succ]; go_simp)
    have hbr3 : b < w3.heap.size := Nat.lt_of_lt_of_le hbr2 hb3.size
    have hb3s := hb3.size
    refine (clone_c Am nm cm xm w3 (HWm2.out.below hb3 rr) (by omega)).mono ?_
    rintro e w4 ⟨A4, n4, c4, rfl, hw4, hb4, hf4⟩
    have hb4s := hb4.size
    have hS4 : w4.cell? ⟨b, off + j, none⟩ = some (.slice Aj nj cj) ∧ w4.cell? ⟨b, off + (j + 1), none⟩ = some (.slice Am nm cm) := ⟨(hb4.cell (p := ⟨b, off + j, none⟩) hbr3).trans hS3.1, (hb4.cell (p := ⟨b, off + (j + 1), none⟩) hbr3).trans hS3.2⟩
    refine hK' _ _ ⟨.inr hS4, fun _ => ?_⟩
    clear hK' K' hS3
    have hok4 : StepsOK w4 w1.heap.size u8 ss := (hok2.out.below hb3).below hb4
    have hp4 : Aside w1.heap.size u8 w4 (A3, n3, c3, xj) := ⟨hw3.below hb4 rr, fun ad had => ⟨by have := hf3 ad had; have := hok2.out.sz; omega, fun _ e => by have := (hok2.out.own.lt _ e).2; have := hf3 ad had; omega⟩⟩
    have hq4 : Aside w1.heap.size u8 w4 (A4, n4, c4, xm) := ⟨hw4, fun ad had => ⟨by have := hf4 ad had; have := hok2.out.sz; omega, fun _ e => by have := (hok2.out.own.lt _ e).2; have := hf4 ad had; omega⟩⟩
    have hB4 : Below w1.heap.size w1 w4 := hB2.trans ((hb3.trans (hb4.mono hb3s)).mono hB2.size)
    have hbr4 : b < w4.heap.size := Nat.lt_of_lt_of_le hbr3 hb4s
    clear hw3 hf3 hw4 hf4 hb3 hb4 hok2 HWj2 HWm2 hbr2 hbr3
    (try simp only [Act.put, nA, nB, nC, nD, nE, nF])
    (refine' anyT_tk 13 rfl ?_; (try simp only [Act.put, nA, nB, nC, nD, nE, nF]))
    (refine anyT_step (i := 14) (by kernel_rfl) rfl (fun K' hK' => ?_); simp only [List.getElem_toArray, List.getElem_cons_zero, List.getElem_cons_succ]; go_simp)
    have hS5 : (w4.alloc (.cells #[.int .i64 j, .slice A3 n3 c3, .slice A4 n4 c4] 65)).cell? ⟨b, off + j, none⟩ = some (.slice Aj nj cj) ∧ (w4.alloc (.cells #[.int .i64 j, .slice A3 n3 c3, .slice A4 n4 c4] 65)).cell? ⟨b, off + (j + 1), none⟩ = some (.slice Am nm cm) := ⟨(cell_new_block hbr4).trans hS4.1, (cell_new_block hbr4).trans hS4.2⟩
    refine hK' _ _ ⟨.inr hS5, fun _ => ?_⟩
    clear hK' K' hS4
    have hba : Below w4.heap.size w4 (w4.alloc (.cells #[.int .i64 j, .slice A3 n3 c3, .slice A4 n4 c4] 65)) := (Below.refl _ _).alloc rr _
    have hok5 := hok4.below hba
    have hp5 := hp4.below hba
    have hq5 := hq4.below hba
    have hB5 : Below w1.heap.size w1 (w4.alloc (.cells #[.int .i64 j, .slice A3 n3 c3, .slice A4 n4 c4] 65)) := hB4.trans (hba.mono hB4.size)
    have hz5 : ∀ i u, [Value.int .i64 j, .slice A3 n3 c3, .slice A4 n4 c4][i]? = some u → (w4.alloc (.cells #[.int .i64 j, .slice A3 n3 c3, .slice A4 n4 c4] 65)).cell? ((⟨w4.heap.size, 0, none⟩ : Addr).add i) = some u := cells_new_block w4 _ _
    have hs5 : (w4.alloc (.cells #[.int .i64 j, .slice A3 n3 c3, .slice A4 n4 c4] 65)).heap.size = w4.heap.size + 1 := by simp
    clear hok4 hp4 hq4 hB4 hba
    (try simp only [Act.put, nA, nB, nC, nD, nE, nF])
    generalize w4.alloc (.cells #[.int .i64 j, .slice A3 n3 c3, .slice A4 n4 c4] 65) = w5 at *
    have hbr5 : b < w5.heap.size := by omega
    refine anyT_step (i := 15) (by kernel_rfl) rfl (fun K' hK' => ?_)
    rw [if_pos (by rfl)]
    refine wp_append_own_at (.tmp 35) (.tmp 49) 61 rfl w1.heap.size 65 (.agg #[.int .i64 0, .slice none 0 0, .slice none 0 0]) 3 56 Tryz.underlying61 step_info rfl (by decide) u8 ss.length _ (by rfl) hok5.own ⟨w4.heap.size, 0, none⟩ 1 1 [.int .i64 j, .slice A3 n3 c3, .slice A4 n4 c4] (by rfl) rfl hz5 (by intro u hu; simp at hu; rcases hu with rfl | rfl | rfl <;> rfl) (by unfold maxLen; omega) (by omega) hok5.sz ?_
    intro v' w6 hown6 hg6 _ hat6
    have hok6 : StepsOK w6 w1.heap.size v' (ss ++ [⟨j, (A3, n3, c3, xj), (A4, n4, c4, xm)⟩]) := hok5.push hp5 hq5 hown6 hg6 hat6
    have hnb : some b ≠ u8.ownBlock := fun e => by have := (hok5.own.lt b e.symm).1; omega
    have hS6 : w6.cell? ⟨b, off + j, none⟩ = some (.slice Aj nj cj) ∧ w6.cell? ⟨b, off + (j + 1), none⟩ = some (.slice Am nm cm) := ⟨hg6.cell hS5.1 hnb, hg6.cell hS5.2 hnb⟩
    have hB6 : Below w1.heap.size w1 w6 := hB5.grown hg6 (by have := hok5.sz; omega) (fun k hk => by have := (hok5.own.lt k hk).1; omega)
    refine hK' _ _ ⟨.inr hS6, fun _ => ?_⟩
    clear hK' K' hok5 hp5 hq5 hB5 hz5 hS5 hown6 hg6 hat6
    (try simp only [Act.put, nA, nB, nC, nD, nE, nF])
    (refine anyT_step (i := 16) (by kernel_rfl) rfl (fun K' hK' => ?_); simp only [List.getElem_toArray, List.getElem_cons_zero, List.getElem_cons_succ]; go_simp)
    refine hK' _ _ ⟨.inl (by kernel_rfl), fun _ => anyT_done (by kernel_rfl) ?_ _⟩
    clear hK' K' hS6
    go_wp2
    go_roundw
    case rel => exact ⟨j + 1, _, by go_num, by omega, by rw [List.map_append]; exact HS.out, hok6, hB6⟩
    case measure => simp [intOf]; omega
  ·obtain rfl : j = n := by omega
   obtain ⟨A9, c9, hv9⟩ := own_form hok.out.own
   subst hv9
   go_wp2
   go_ret2
   exact ⟨A9, _, c9, ss, by rw [HM.out]; rfl, by rw [HM.out]; exact hss.out, hok.out.steps rfl, HB1.out.trans (hB.mono HB1.out.size), fun ad had => by subst had; exact Nat.le_trans HB1.out.size (hok.out.own.lt ad.block rfl).1⟩
theorem steps_c (A : Option Addr) (n c : Nat) (xs : List LawR) (Aw : Option Addr) (nw cw : Nat) (ws : List Snd) (w : World) (hx : IsLaws w A n c xs) (hw : IsWord w Aw nw cw ws) (hT : TabOK w) :
  Calls Tryz.prog 33 #[.slice A n c, .slice Aw nw cw] w (RetSteps w (stepsM (lawsD xs) ws)) :=
 (steps_cF A n c xs Aw nw cw ws w hx hw hT).mono fun _ _ ⟨A', n', c', ss, h1, h2, h3, h4, _⟩ => ⟨A', n', c', ss, h1, h2, h3, h4⟩
end Go.Proofs.YtfgilinjaldhhaaGreatDoor

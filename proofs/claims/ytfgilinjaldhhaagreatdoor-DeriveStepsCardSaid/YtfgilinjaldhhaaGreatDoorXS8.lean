/-
  ablautlaw10.DeriveSteps is true.
-/
import Derived.Test.YtfgilinjaldhhaaGreatDoorXSteps1
import Derived.Test.YtfgilinjaldhhaaGreatDoorG22
set_option linter.unusedVariables false
set_option linter.unusedSimpArgs false
namespace Go.Proofs.YtfgilinjaldhhaaGreatDoor
open Go.RowKit Go.Shelf

theorem IsSteps.at_ {w : World} {A : Option Addr} {n c : Nat} {ss : List StepR} (h : IsSteps w A n c ss) {k : Nat} {s : StepR} (hs : ss[k]? = some s) :
    ∃ b off, A = some ⟨b, off, none⟩ ∧ b < w.heap.size ∧ w.cell? ⟨b, off + k * 3, none⟩ = some (.int .i64 s.k) ∧ w.cell? ⟨b, off + k * 3 + 1, none⟩ = some s.p.val ∧ w.cell? ⟨b, off + k * 3 + 2, none⟩ = some s.q.val := by
  obtain ⟨b, off, hA, hb, hc⟩ := h.1.at_ StepR.len (by decide) hs
  exact ⟨b, off, hA, hb, hc 0 _ rfl, hc 1 _ rfl, hc 2 _ rfl⟩


set_option maxRecDepth 100000 in
set_option maxHeartbeats 4000000 in
theorem deriveSteps_c (A : Option Addr) (n c : Nat) (xs : List LawR) (Aw : Option Addr) (nw cw : Nat) (ws : List Snd) (w : World) (hx : IsLaws w A n c xs) (hw : IsWord w Aw nw cw ws) (hT : TabOK w) :
    Calls Tryz.prog 8 #[.slice A n c, .slice Aw nw cw] w (RetTrue w) := by
  have hmx := hx.max
  have hmw := hw.max
  have HX := Lib.hid hx; clear hx
  have HW := Lib.hid hw; clear hw
  have HT := Lib.hid hT; clear hT
  have HLN : Hid ((lawsD xs).length = n) := by show (lawsD xs).length = n; rw [lawsD, List.length_map]; exact HX.out.len
  go_enter Tryz.func8, Tryz.ntmps8
  go_wp2_with fail
  refine (light_c A n c xs w HX.out).mono ?_
  rintro e w1 ⟨⟨b1, rfl⟩, hB1⟩
  have HB1 := Lib.hid hB1; clear hB1
  cases b1
  · go_wp2_with fail
    refine (works_c _ (HT.out.below HB1.out (Nat.le_refl _))).mono ?_
    rintro e w2 ⟨rfl, hbw⟩
    go_wp2
    go_ret
    exact ⟨rfl, Below.trans HB1.out (hbw.mono (Below.size HB1.out))⟩
  by_cases h100 : 100 < nw
  · go_wp2_with fail
    refine (works_c _ (HT.out.below HB1.out (Nat.le_refl _))).mono ?_
    rintro e w2 ⟨rfl, hbw⟩
    go_wp2
    go_ret
    exact ⟨rfl, Below.trans HB1.out (hbw.mono (Below.size HB1.out))⟩
  go_wp2_with fail
  refine (steps_c A n c xs Aw nw cw ws w1 (HX.out.below HB1.out (Nat.le_refl _)) (HW.out.below HB1.out (Nat.le_refl _)) (HT.out.below HB1.out (Nat.le_refl _))).mono ?_
  rintro e w2 ⟨A2, n2, c2, ss, rfl, hss, hst, hB2'⟩
  have HST := Lib.hid hst; clear hst
  have hB2 := HB1.out.trans (hB2'.mono HB1.out.size)
  have HB2 := Lib.hid hB2; clear hB2 hB2' HB1
  by_cases he : (stepsM (lawsD xs) ws).1 = 0
  case neg =>
    obtain ⟨er, her, hq1, hq2⟩ := steps_bad he
    rw [hq1] at hss
    rw [hq1]
    obtain rfl : ss = [] := by simpa using hss
    obtain rfl : n2 = 0 := HST.out.1.2.symm
    have h1 : (er != 0) = true := by simpa using her
    have h2 : (er != er) = false := by simp
    have HQ2 := Lib.hid hq2; clear hq1 hq2 hss he
    go_wp2_with fail
    refine (derive_c A n c xs Aw nw cw ws w2 (HX.out.below HB2.out (Nat.le_refl _)) (HW.out.below HB2.out (Nat.le_refl _)) (HT.out.below HB2.out (Nat.le_refl _))).mono ?_
    rw [HQ2.out]
    rintro e w3 ⟨A3, n3, c3, rfl, hw3, hB3', _⟩
    obtain rfl : n3 = 0 := hw3.len.symm
    clear hw3
    have hB3 := HB2.out.trans (hB3'.mono HB2.out.size)
    have HB3 := Lib.hid hB3; clear hB3 hB3' HB2
    go_wp2_with fail
    refine (works_c _ (HT.out.below HB3.out (Nat.le_refl _))).mono ?_
    rintro e w4 ⟨rfl, hbw⟩
    go_wp2
    go_ret
    exact ⟨rfl, Below.trans HB3.out (hbw.mono (Below.size HB3.out))⟩
  obtain ⟨fs, hq1, hfl, hf0, hq2, hn64, hap⟩ := steps_good he
  rw [HLN.out] at hq1 hfl hq2 hn64
  rw [hq1] at hss
  rw [hq1]
  have HSS := Lib.hid hss; clear hss
  have HFL := Lib.hid hfl; clear hfl
  have HAP := Lib.hid hap; clear hap
  have HQ2 := Lib.hid hq2; clear hq1 hq2 he
  go_wp2_with fail
  refine (derive_c A n c xs Aw nw cw ws w2 (HX.out.below HB2.out (Nat.le_refl _)) (HW.out.below HB2.out (Nat.le_refl _)) (HT.out.below HB2.out (Nat.le_refl _))).mono ?_
  rw [HQ2.out]
  rintro e w3 ⟨A3, n3, c3, rfl, hw3, hB3', _⟩
  have HW3 := Lib.hid hw3; clear hw3
  have HST3 := Lib.hid (HST.out.below hB3' (Nat.le_refl _)); clear HST
  have hB3 := HB2.out.trans (hB3'.mono HB2.out.size)
  have HB3 := Lib.hid hB3; clear hB3 hB3' HB2
  have hW0 := HW.out.below HB3.out (Nat.le_refl _)
  rw [← hf0] at hW0
  have HW0 := Lib.hid hW0; clear hW0
  have hn2 : n2 = ss.length := HST3.out.1.2.symm
  have hsl : ss.length ≤ n := by have h1 := stepsL_len fs n; rw [← HSS.out, List.length_map] at h1; exact h1
  subst hn2
  go_wp2
  go_loopw [9, 10, 11] (fun va vw vi wr => ∃ (a i : Nat) (An : Option Addr) (nn cn : Nat), va = .int .i64 a ∧ vw = .slice An nn cn ∧ vi = .int .i64 i ∧ a ≤ n ∧ i ≤ ss.length ∧ Hid (i = (stepsL fs a).length) ∧ Hid (IsWord wr An nn cn (fs.getD a [])) ∧ Below w3.heap.size w3 wr) (fun _ _ vi _ => ss.length - (intOf vi).toNat)
  case atStart => exact ⟨0, 0, _, _, _, rfl, rfl, rfl, Nat.zero_le _, Nat.zero_le _, rfl, HW0.out, Below.refl _ _⟩
  case round =>
    obtain ⟨a, i, An, nn, cn, rfl, rfl, rfl, ha, hi, hai, hwn, hB⟩ := hrel
    have hBs := hB.size
    by_cases hlt : i < ss.length
    · obtain ⟨s, hs⟩ : ∃ s, ss[i]? = some s := ⟨ss[i], List.getElem?_eq_getElem hlt⟩
      obtain ⟨b, off, hA2, hb, hc0, hc1, hc2⟩ := (HST3.out.below hB (Nat.le_refl _)).at_ hs
      have hwpq := (HST3.out.below hB (Nat.le_refl _)).2 s (List.mem_of_getElem? hs)
      have hdat : (stepsL fs n)[(stepsL fs a).length]? = some s.data := by rw [← HSS.out, ← hai.out, List.getElem?_map, hs]; rfl
      obtain ⟨k, ⟨Ap, np, cp, x⟩, ⟨Aq, nq, cq, y⟩⟩ := s
      obtain ⟨hak, hkn, hx1, hy1, hxy, hsame, hax, hlen⟩ := step_next ha hdat
      obtain ⟨hwp, hwq⟩ := hwpq
      dsimp only at hwp hwq
      have HWP := Lib.hid hwp; clear hwp
      have HWQ := Lib.hid hwq; clear hwq
      have HSAME := Lib.hid hsame; clear hsame
      have HXY := Lib.hid hxy; clear hxy
      have HAX : Hid (fs.getD a [] = x) := hax
      have HX1 : Hid (x = fs.getD k []) := hx1
      have HY1 : Hid (y = fs.getD (k + 1) []) := hy1
      have HLE : Hid ((stepsL fs (k + 1)).length = i + 1) := by show _ = _; rw [hlen, ← hai.out]
      clear hdat hs hlen hax hx1 hy1
      subst hA2
      have hc1' : wr.cell? ⟨b, off + i * 3 + 1, none⟩ = some (.slice Ap np cp) := hc1
      have hc2' : wr.cell? ⟨b, off + i * 3 + 2, none⟩ = some (.slice Aq nq cq) := hc2
      clear hc1 hc2
      have hi1 : (i : Int) < (ss.length : Int) := by omega
      have hak' : a ≤ k := hak
      have hkn' : k < n := hkn
      clear hak hkn
      go_wp2
      refine plain_region (fun W' => W'.cell? ⟨b, off + i * 3, none⟩ = some (.int .i64 k) ∧ W'.cell? ⟨b, off + i * 3 + 1, none⟩ = some (.slice Ap np cp) ∧ W'.cell? ⟨b, off + i * 3 + 2, none⟩ = some (.slice Aq nq cq)) (by kernel_rfl) ⟨hc0, hc1', hc2'⟩ (fun hHeld => ?_)
      (refine' anyT_take (i := 0) (v := _) rfl (by kernel_rfl) (by kernel_rfl) (by kernel_rfl) (by kernel_rfl) (fun _ _ _ h => h) (Or.inl ⟨by rfl, fun w' hSw => by (try dsimp only at hSw); go_split_ands; go_simp; (try with_reducible rfl)⟩) (by assumption) ?_; (try simp only [Act.put, List.getElem_toArray, List.getElem_cons_zero, List.getElem_cons_succ, List.setIfInBounds_toArray, List.set_cons_zero, List.set_cons_succ])); (refine' anyT_take (i := 1) (v := _) rfl (by kernel_rfl) (by kernel_rfl) (by kernel_rfl) (by kernel_rfl) (fun _ _ _ h => h) (Or.inl ⟨by rfl, fun w' hSw => by (try dsimp only at hSw); go_split_ands; go_simp; (try with_reducible rfl)⟩) (by assumption) ?_; (try simp only [Act.put, List.getElem_toArray, List.getElem_cons_zero, List.getElem_cons_succ, List.setIfInBounds_toArray, List.set_cons_zero, List.set_cons_succ])); (refine' anyT_take (i := 2) (v := _) rfl (by kernel_rfl) (by kernel_rfl) (by kernel_rfl) (by kernel_rfl) (fun _ _ _ h => h) (Or.inl ⟨by rfl, fun w' hSw => by (try dsimp only at hSw); go_split_ands; go_simp; (try with_reducible rfl)⟩) (by assumption) ?_; (try simp only [Act.put, List.getElem_toArray, List.getElem_cons_zero, List.getElem_cons_succ, List.setIfInBounds_toArray, List.set_cons_zero, List.set_cons_succ])); (refine' anyT_take (i := 3) (v := _) rfl (by kernel_rfl) (by kernel_rfl) (by kernel_rfl) (by kernel_rfl) (fun _ _ _ h => h) (Or.inl ⟨by rfl, fun w' hSw => by (try dsimp only at hSw); go_split_ands; go_simp; (try with_reducible rfl)⟩) (by assumption) ?_; (try simp only [Act.put, List.getElem_toArray, List.getElem_cons_zero, List.getElem_cons_succ, List.setIfInBounds_toArray, List.set_cons_zero, List.set_cons_succ])); (refine' anyT_take (i := 4) (v := _) rfl (by kernel_rfl) (by kernel_rfl) (by kernel_rfl) (by kernel_rfl) (fun _ _ _ h => h) (Or.inl ⟨by rfl, fun w' hSw => by (try dsimp only at hSw); go_split_ands; go_simp; (try with_reducible rfl)⟩) (by assumption) ?_; (try simp only [Act.put, List.getElem_toArray, List.getElem_cons_zero, List.getElem_cons_succ, List.setIfInBounds_toArray, List.set_cons_zero, List.set_cons_succ])); (refine' anyT_take (i := 5) (v := _) rfl (by kernel_rfl) (by kernel_rfl) (by kernel_rfl) (by kernel_rfl) (fun _ _ _ h => h) (Or.inl ⟨by rfl, fun w' hSw => by (try dsimp only at hSw); go_split_ands; go_simp; (try with_reducible rfl)⟩) (by assumption) ?_; (try simp only [Act.put, List.getElem_toArray, List.getElem_cons_zero, List.getElem_cons_succ, List.setIfInBounds_toArray, List.set_cons_zero, List.set_cons_succ])); (refine' anyT_take (i := 6) (v := _) rfl (by kernel_rfl) (by kernel_rfl) (by kernel_rfl) (by kernel_rfl) (fun _ _ _ h => h) (Or.inl ⟨by rfl, fun w' hSw => by (try dsimp only at hSw); go_split_ands; go_simp; (try with_reducible rfl)⟩) (by assumption) ?_; (try simp only [Act.put, List.getElem_toArray, List.getElem_cons_zero, List.getElem_cons_succ, List.setIfInBounds_toArray, List.set_cons_zero, List.set_cons_succ]))
      rw [show decide (k < a) = false from decide_eq_false (by omega)]
      (refine' anyT_take (i := 7) (v := _) rfl (by kernel_rfl) (by kernel_rfl) (by kernel_rfl) (by kernel_rfl) (fun _ _ _ h => h) (Or.inl ⟨by rfl, fun w' hSw => by (try dsimp only at hSw); go_split_ands; go_simp; (try with_reducible rfl)⟩) (by assumption) ?_; (try simp only [Act.put, List.getElem_toArray, List.getElem_cons_zero, List.getElem_cons_succ, List.setIfInBounds_toArray, List.set_cons_zero, List.set_cons_succ])); (refine' anyT_take (i := 8) (v := _) rfl (by kernel_rfl) (by kernel_rfl) (by kernel_rfl) (by kernel_rfl) (fun _ _ _ h => h) (Or.inl ⟨by rfl, fun w' hSw => by (try dsimp only at hSw); go_split_ands; go_simp; (try with_reducible rfl)⟩) (by assumption) ?_; (try simp only [Act.put, List.getElem_toArray, List.getElem_cons_zero, List.getElem_cons_succ, List.setIfInBounds_toArray, List.set_cons_zero, List.set_cons_succ])); (refine' anyT_take (i := 9) (v := _) rfl (by kernel_rfl) (by kernel_rfl) (by kernel_rfl) (by kernel_rfl) (fun _ _ _ h => h) (Or.inl ⟨by rfl, fun w' hSw => by (try dsimp only at hSw); go_split_ands; go_simp; (try with_reducible rfl)⟩) (by assumption) ?_; (try simp only [Act.put, List.getElem_toArray, List.getElem_cons_zero, List.getElem_cons_succ, List.setIfInBounds_toArray, List.set_cons_zero, List.set_cons_succ])); (refine' anyT_take (i := 10) (v := _) rfl (by kernel_rfl) (by kernel_rfl) (by kernel_rfl) (by kernel_rfl) (fun _ _ _ h => h) (Or.inl ⟨by rfl, fun w' hSw => by (try dsimp only at hSw); go_split_ands; go_simp; (try with_reducible rfl)⟩) (by assumption) ?_; (try simp only [Act.put, List.getElem_toArray, List.getElem_cons_zero, List.getElem_cons_succ, List.setIfInBounds_toArray, List.set_cons_zero, List.set_cons_succ])); (refine' anyT_take (i := 11) (v := _) rfl (by kernel_rfl) (by kernel_rfl) (by kernel_rfl) (by kernel_rfl) (fun _ _ _ h => h) (Or.inl ⟨by rfl, fun w' hSw => by (try dsimp only at hSw); go_split_ands; go_simp; (try with_reducible rfl)⟩) (by assumption) ?_; (try simp only [Act.put, List.getElem_toArray, List.getElem_cons_zero, List.getElem_cons_succ, List.setIfInBounds_toArray, List.set_cons_zero, List.set_cons_succ])); (refine' anyT_take (i := 12) (v := _) rfl (by kernel_rfl) (by kernel_rfl) (by kernel_rfl) (by kernel_rfl) (fun _ _ _ h => h) (Or.inl ⟨by rfl, fun w' hSw => by (try dsimp only at hSw); go_split_ands; go_simp; (try with_reducible rfl)⟩) (by assumption) ?_; (try simp only [Act.put, List.getElem_toArray, List.getElem_cons_zero, List.getElem_cons_succ, List.setIfInBounds_toArray, List.set_cons_zero, List.set_cons_succ])); (refine' anyT_take (i := 13) (v := _) rfl (by kernel_rfl) (by kernel_rfl) (by kernel_rfl) (by kernel_rfl) (fun _ _ _ h => h) (Or.inl ⟨by rfl, fun w' hSw => by (try dsimp only at hSw); go_split_ands; go_simp; (try with_reducible rfl)⟩) (by assumption) ?_; (try simp only [Act.put, List.getElem_toArray, List.getElem_cons_zero, List.getElem_cons_succ, List.setIfInBounds_toArray, List.set_cons_zero, List.set_cons_succ])); (refine' anyT_take (i := 14) (v := _) rfl (by kernel_rfl) (by kernel_rfl) (by kernel_rfl) (by kernel_rfl) (fun _ _ _ h => h) (Or.inl ⟨by rfl, fun w' hSw => by (try dsimp only at hSw); go_split_ands; go_simp; (try with_reducible rfl)⟩) (by assumption) ?_; (try simp only [Act.put, List.getElem_toArray, List.getElem_cons_zero, List.getElem_cons_succ, List.setIfInBounds_toArray, List.set_cons_zero, List.set_cons_succ])); (refine' anyT_take (i := 15) (v := _) rfl (by kernel_rfl) (by kernel_rfl) (by kernel_rfl) (by kernel_rfl) (fun _ _ _ h => h) (Or.inl ⟨by rfl, fun w' hSw => by (try dsimp only at hSw); go_split_ands; go_simp; (try with_reducible rfl)⟩) (by assumption) ?_; (try simp only [Act.put, List.getElem_toArray, List.getElem_cons_zero, List.getElem_cons_succ, List.setIfInBounds_toArray, List.set_cons_zero, List.set_cons_succ]))
      rw [show decide (n ≤ k) = false from decide_eq_false (by omega)]
      (refine' anyT_take (i := 16) (v := _) rfl (by kernel_rfl) (by kernel_rfl) (by kernel_rfl) (by kernel_rfl) (fun _ _ _ h => h) (Or.inl ⟨by rfl, fun w' hSw => by (try dsimp only at hSw); go_split_ands; go_simp; (try with_reducible rfl)⟩) (by assumption) ?_; (try simp only [Act.put, List.getElem_toArray, List.getElem_cons_zero, List.getElem_cons_succ, List.setIfInBounds_toArray, List.set_cons_zero, List.set_cons_succ])); (refine' anyT_take (i := 17) (v := _) rfl (by kernel_rfl) (by kernel_rfl) (by kernel_rfl) (by kernel_rfl) (fun _ _ _ h => h) (Or.inl ⟨by rfl, fun w' hSw => by (try dsimp only at hSw); go_split_ands; go_simp; (try with_reducible rfl)⟩) (by assumption) ?_; (try simp only [Act.put, List.getElem_toArray, List.getElem_cons_zero, List.getElem_cons_succ, List.setIfInBounds_toArray, List.set_cons_zero, List.set_cons_succ])); (refine' anyT_take (i := 18) (v := _) rfl (by kernel_rfl) (by kernel_rfl) (by kernel_rfl) (by kernel_rfl) (fun _ _ _ h => h) (Or.inl ⟨by rfl, fun w' hSw => by (try dsimp only at hSw); go_split_ands; go_simp; (try with_reducible rfl)⟩) (by assumption) ?_; (try simp only [Act.put, List.getElem_toArray, List.getElem_cons_zero, List.getElem_cons_succ, List.setIfInBounds_toArray, List.set_cons_zero, List.set_cons_succ])); (refine' anyT_take (i := 19) (v := _) rfl (by kernel_rfl) (by kernel_rfl) (by kernel_rfl) (by kernel_rfl) (fun _ _ _ h => h) (Or.inl ⟨by rfl, fun w' hSw => by (try dsimp only at hSw); go_split_ands; go_simp; (try with_reducible rfl)⟩) (by assumption) ?_; (try simp only [Act.put, List.getElem_toArray, List.getElem_cons_zero, List.getElem_cons_succ, List.setIfInBounds_toArray, List.set_cons_zero, List.set_cons_succ])); (refine' anyT_take (i := 20) (v := _) rfl (by kernel_rfl) (by kernel_rfl) (by kernel_rfl) (by kernel_rfl) (fun _ _ _ h => h) (Or.inl ⟨by rfl, fun w' hSw => by (try dsimp only at hSw); go_split_ands; go_simp; (try with_reducible rfl)⟩) (by assumption) ?_; (try simp only [Act.put, List.getElem_toArray, List.getElem_cons_zero, List.getElem_cons_succ, List.setIfInBounds_toArray, List.set_cons_zero, List.set_cons_succ])); (refine' anyT_take (i := 21) (v := _) rfl (by kernel_rfl) (by kernel_rfl) (by kernel_rfl) (by kernel_rfl) (fun _ _ _ h => h) (Or.inl ⟨by rfl, fun w' hSw => by (try dsimp only at hSw); go_split_ands; go_simp; (try with_reducible rfl)⟩) (by assumption) ?_; (try simp only [Act.put, List.getElem_toArray, List.getElem_cons_zero, List.getElem_cons_succ, List.setIfInBounds_toArray, List.set_cons_zero, List.set_cons_succ])); (refine' anyT_take (i := 22) (v := _) rfl (by kernel_rfl) (by kernel_rfl) (by kernel_rfl) (by kernel_rfl) (fun _ _ _ h => h) (Or.inl ⟨by rfl, fun w' hSw => by (try dsimp only at hSw); go_split_ands; go_simp; (try with_reducible rfl)⟩) (by assumption) ?_; (try simp only [Act.put, List.getElem_toArray, List.getElem_cons_zero, List.getElem_cons_succ, List.setIfInBounds_toArray, List.set_cons_zero, List.set_cons_succ])); (refine' anyT_take (i := 23) (v := _) rfl (by kernel_rfl) (by kernel_rfl) (by kernel_rfl) (by kernel_rfl) (fun _ _ _ h => h) (Or.inl ⟨by rfl, fun w' hSw => by (try dsimp only at hSw); go_split_ands; go_simp; (try with_reducible rfl)⟩) (by assumption) ?_; (try simp only [Act.put, List.getElem_toArray, List.getElem_cons_zero, List.getElem_cons_succ, List.setIfInBounds_toArray, List.set_cons_zero, List.set_cons_succ]))
      (refine anyT_step (i := 24) (by kernel_rfl) rfl (fun K' hK' => ?_); simp only [List.getElem_toArray, List.getElem_cons_zero, List.getElem_cons_succ]; go_simp)
      have hwx : IsWord wr.drew An nn cn x := by have h := hwn.out; rw [HAX.out] at h; exact h.below (B := wr.heap.size) ((Below.refl wr.heap.size wr).drew) (Nat.le_refl _)
      refine (wEqual_c Ap An np nn cp cn x x _ (HWP.out.below (B := wr.heap.size) ((Below.refl wr.heap.size wr).drew) (Nat.le_refl _)) hwx).mono ?_
      rintro e w4 ⟨rfl, hb4'⟩
      have hb4 : Below wr.heap.size wr w4 := (Below.refl wr.heap.size wr).drew.trans hb4'
      have hS4 : w4.cell? ⟨b, off + i * 3, none⟩ = some (.int .i64 k) ∧ w4.cell? ⟨b, off + i * 3 + 1, none⟩ = some (.slice Ap np cp) ∧ w4.cell? ⟨b, off + i * 3 + 2, none⟩ = some (.slice Aq nq cq) := ⟨(hb4.cell (p := ⟨b, off + i * 3, none⟩) hb).trans hc0, (hb4.cell (p := ⟨b, off + i * 3 + 1, none⟩) hb).trans hc1', (hb4.cell (p := ⟨b, off + i * 3 + 2, none⟩) hb).trans hc2'⟩
      rw [show decide (x = x) = true from decide_eq_true rfl]
      refine hK' _ _ ⟨.inr hS4, fun _ => ?_⟩
      clear hK' K' hb4' hHeld hc0 hc1' hc2' hwx
      have hb4b : b < w4.heap.size := Nat.lt_of_lt_of_le hb hb4.size
      have hB4 : Below w3.heap.size w3 w4 := hB.trans (hb4.mono hBs)
      have HWN4 : Hid (IsWord w4 An nn cn (fs.getD a [])) := hwn.out.below hb4 (Nat.le_refl _)
      have HWP4 := Lib.hid (HWP.out.below hb4 (Nat.le_refl _)); clear HWP
      have HWQ4 := Lib.hid (HWQ.out.below hb4 (Nat.le_refl _)); clear HWQ
      clear hb4 hwn hB hBs
      (try simp only [Act.put, List.getElem_toArray, List.getElem_cons_zero, List.getElem_cons_succ, List.setIfInBounds_toArray, List.set_cons_zero, List.set_cons_succ])
      (refine' anyT_take (i := 25) (v := _) rfl (by kernel_rfl) (by kernel_rfl) (by kernel_rfl) (by kernel_rfl) (fun _ _ _ h => h) (Or.inl ⟨by rfl, fun w' hSw => by (try dsimp only at hSw); go_split_ands; go_simp; (try with_reducible rfl)⟩) (by assumption) ?_; (try simp only [Act.put, List.getElem_toArray, List.getElem_cons_zero, List.getElem_cons_succ, List.setIfInBounds_toArray, List.set_cons_zero, List.set_cons_succ])); (refine' anyT_take (i := 26) (v := _) rfl (by kernel_rfl) (by kernel_rfl) (by kernel_rfl) (by kernel_rfl) (fun _ _ _ h => h) (Or.inl ⟨by rfl, fun w' hSw => by (try dsimp only at hSw); go_split_ands; go_simp; (try with_reducible rfl)⟩) (by assumption) ?_; (try simp only [Act.put, List.getElem_toArray, List.getElem_cons_zero, List.getElem_cons_succ, List.setIfInBounds_toArray, List.set_cons_zero, List.set_cons_succ])); (refine' anyT_take (i := 27) (v := _) rfl (by kernel_rfl) (by kernel_rfl) (by kernel_rfl) (by kernel_rfl) (fun _ _ _ h => h) (Or.inl ⟨by rfl, fun w' hSw => by (try dsimp only at hSw); go_split_ands; go_simp; (try with_reducible rfl)⟩) (by assumption) ?_; (try simp only [Act.put, List.getElem_toArray, List.getElem_cons_zero, List.getElem_cons_succ, List.setIfInBounds_toArray, List.set_cons_zero, List.set_cons_succ])); (refine' anyT_take (i := 28) (v := _) rfl (by kernel_rfl) (by kernel_rfl) (by kernel_rfl) (by kernel_rfl) (fun _ _ _ h => h) (Or.inl ⟨by rfl, fun w' hSw => by (try dsimp only at hSw); go_split_ands; go_simp; (try with_reducible rfl)⟩) (by assumption) ?_; (try simp only [Act.put, List.getElem_toArray, List.getElem_cons_zero, List.getElem_cons_succ, List.setIfInBounds_toArray, List.set_cons_zero, List.set_cons_succ])); (refine' anyT_take (i := 29) (v := _) rfl (by kernel_rfl) (by kernel_rfl) (by kernel_rfl) (by kernel_rfl) (fun _ _ _ h => h) (Or.inl ⟨by rfl, fun w' hSw => by (try dsimp only at hSw); go_split_ands; go_simp; (try with_reducible rfl)⟩) (by assumption) ?_; (try simp only [Act.put, List.getElem_toArray, List.getElem_cons_zero, List.getElem_cons_succ, List.setIfInBounds_toArray, List.set_cons_zero, List.set_cons_succ])); (refine' anyT_take (i := 30) (v := _) rfl (by kernel_rfl) (by kernel_rfl) (by kernel_rfl) (by kernel_rfl) (fun _ _ _ h => h) (Or.inl ⟨by rfl, fun w' hSw => by (try dsimp only at hSw); go_split_ands; go_simp; (try with_reducible rfl)⟩) (by assumption) ?_; (try simp only [Act.put, List.getElem_toArray, List.getElem_cons_zero, List.getElem_cons_succ, List.setIfInBounds_toArray, List.set_cons_zero, List.set_cons_succ])); (refine' anyT_take (i := 31) (v := _) rfl (by kernel_rfl) (by kernel_rfl) (by kernel_rfl) (by kernel_rfl) (fun _ _ _ h => h) (Or.inl ⟨by rfl, fun w' hSw => by (try dsimp only at hSw); go_split_ands; go_simp; (try with_reducible rfl)⟩) (by assumption) ?_; (try simp only [Act.put, List.getElem_toArray, List.getElem_cons_zero, List.getElem_cons_succ, List.setIfInBounds_toArray, List.set_cons_zero, List.set_cons_succ])); (refine' anyT_take (i := 32) (v := _) rfl (by kernel_rfl) (by kernel_rfl) (by kernel_rfl) (by kernel_rfl) (fun _ _ _ h => h) (Or.inl ⟨by rfl, fun w' hSw => by (try dsimp only at hSw); go_split_ands; go_simp; (try with_reducible rfl)⟩) (by assumption) ?_; (try simp only [Act.put, List.getElem_toArray, List.getElem_cons_zero, List.getElem_cons_succ, List.setIfInBounds_toArray, List.set_cons_zero, List.set_cons_succ])); (refine' anyT_take (i := 33) (v := _) rfl (by kernel_rfl) (by kernel_rfl) (by kernel_rfl) (by kernel_rfl) (fun _ _ _ h => h) (Or.inl ⟨by rfl, fun w' hSw => by (try dsimp only at hSw); go_split_ands; go_simp; (try with_reducible rfl)⟩) (by assumption) ?_; (try simp only [Act.put, List.getElem_toArray, List.getElem_cons_zero, List.getElem_cons_succ, List.setIfInBounds_toArray, List.set_cons_zero, List.set_cons_succ])); (refine' anyT_take (i := 34) (v := _) rfl (by kernel_rfl) (by kernel_rfl) (by kernel_rfl) (by kernel_rfl) (fun _ _ _ h => h) (Or.inl ⟨by rfl, fun w' hSw => by (try dsimp only at hSw); go_split_ands; go_simp; (try with_reducible rfl)⟩) (by assumption) ?_; (try simp only [Act.put, List.getElem_toArray, List.getElem_cons_zero, List.getElem_cons_succ, List.setIfInBounds_toArray, List.set_cons_zero, List.set_cons_succ])); (refine' anyT_take (i := 35) (v := _) rfl (by kernel_rfl) (by kernel_rfl) (by kernel_rfl) (by kernel_rfl) (fun _ _ _ h => h) (Or.inl ⟨by rfl, fun w' hSw => by (try dsimp only at hSw); go_split_ands; go_simp; (try with_reducible rfl)⟩) (by assumption) ?_; (try simp only [Act.put, List.getElem_toArray, List.getElem_cons_zero, List.getElem_cons_succ, List.setIfInBounds_toArray, List.set_cons_zero, List.set_cons_succ])); (refine' anyT_take (i := 36) (v := _) rfl (by kernel_rfl) (by kernel_rfl) (by kernel_rfl) (by kernel_rfl) (fun _ _ _ h => h) (Or.inl ⟨by rfl, fun w' hSw => by (try dsimp only at hSw); go_split_ands; go_simp; (try with_reducible rfl)⟩) (by assumption) ?_; (try simp only [Act.put, List.getElem_toArray, List.getElem_cons_zero, List.getElem_cons_succ, List.setIfInBounds_toArray, List.set_cons_zero, List.set_cons_succ])); (refine' anyT_take (i := 37) (v := _) rfl (by kernel_rfl) (by kernel_rfl) (by kernel_rfl) (by kernel_rfl) (fun _ _ _ h => h) (Or.inl ⟨by rfl, fun w' hSw => by (try dsimp only at hSw); go_split_ands; go_simp; (try with_reducible rfl)⟩) (by assumption) ?_; (try simp only [Act.put, List.getElem_toArray, List.getElem_cons_zero, List.getElem_cons_succ, List.setIfInBounds_toArray, List.set_cons_zero, List.set_cons_succ]))
      (refine anyT_step (i := 38) (by kernel_rfl) rfl (fun K' hK' => ?_); simp only [List.getElem_toArray, List.getElem_cons_zero, List.getElem_cons_succ]; go_simp)
      refine (wEqual_c Ap Aq np nq cp cq x y w4 HWP4.out HWQ4.out).mono ?_
      rintro e w5 ⟨rfl, hb5⟩
      rw [show decide (x = y) = false from decide_eq_false HXY.out]
      have hS5 : w5.cell? ⟨b, off + i * 3, none⟩ = some (.int .i64 k) ∧ w5.cell? ⟨b, off + i * 3 + 1, none⟩ = some (.slice Ap np cp) ∧ w5.cell? ⟨b, off + i * 3 + 2, none⟩ = some (.slice Aq nq cq) := ⟨(hb5.cell (p := ⟨b, off + i * 3, none⟩) hb4b).trans hS4.1, (hb5.cell (p := ⟨b, off + i * 3 + 1, none⟩) hb4b).trans hS4.2.1, (hb5.cell (p := ⟨b, off + i * 3 + 2, none⟩) hb4b).trans hS4.2.2⟩
      refine hK' _ _ ⟨.inr hS5, fun _ => ?_⟩
      clear hK' K' hS4
      have hb5b : b < w5.heap.size := Nat.lt_of_lt_of_le hb4b hb5.size
      have hB5 : Below w3.heap.size w3 w5 := hB4.trans (hb5.mono hB4.size)
      have HWN5 : Hid (IsWord w5 An nn cn (fs.getD a [])) := HWN4.out.below hb5 (Nat.le_refl _)
      have HWQ5 := Lib.hid (HWQ4.out.below hb5 (Nat.le_refl _)); clear HWQ4 HWP4 HWN4
      have HC0 := Lib.hid hS5.1
      have HC2 := Lib.hid hS5.2.2
      clear hb5 hB4 hb4b
      (try simp only [Act.put, List.getElem_toArray, List.getElem_cons_zero, List.getElem_cons_succ, List.setIfInBounds_toArray, List.set_cons_zero, List.set_cons_succ])
      (refine anyT_step (i := 39) (by kernel_rfl) rfl (fun K' hK' => ?_); simp only [List.getElem_toArray, List.getElem_cons_zero, List.getElem_cons_succ]; go_simp)
      refine hK' _ _ ⟨.inl (by kernel_rfl), fun _ => anyT_done (by kernel_rfl) ?_ _⟩
      clear hK' K' hS5
      clear hb
      try clear wr
      go_wp2
      go_loopw [9] (fun va wr => ∃ m : Nat, va = .int .i64 m ∧ a ≤ m ∧ m ≤ k ∧ Hid (fs.getD a [] = fs.getD m []) ∧ Below w5.heap.size w5 wr) (fun va _ => k - (intOf va).toNat)
      case atStart => exact ⟨a, rfl, Nat.le_refl _, hak', rfl, Below.refl _ _⟩
      case round =>
        obtain ⟨m, rfl, ham, hmk, hfm, hB6⟩ := hrel
        have hB6s := hB6.size
        have hc0 := (hB6.cell (p := ⟨b, off + i * 3, none⟩) hb5b).trans HC0.out
        have hBB := HB3.out.trans ((hB5.trans (hB6.mono hB5.size)).mono HB3.out.size)
        obtain ⟨xl, hxl⟩ := HX.out.get (k := m) (by omega)
        obtain ⟨bl, ol, hAl, hbl, hrl⟩ := (HX.out.below hBB (Nat.le_refl _)).at_ hxl
        have HLA := Lib.hid ((HX.out.below hBB (Nat.le_refl _)).2 xl (List.mem_of_getElem? hxl))
        have hap := HAP.out m xl.l (by unfold lawsD; rw [List.getElem?_map, hxl]; rfl)
        have HAPm := Lib.hid hap; clear hap hxl
        have HRL := Lib.hid hrl; clear hrl
        have HTr := Lib.hid (HT.out.below hBB (Nat.le_refl _))
        have HWr := Lib.hid (HWN5.out.below hB6 (Nat.le_refl _))
        subst hAl
        have hm1 : (m : Int) < (n : Int) := by omega
        by_cases hmlt : m < k
        · have hm2 : (m : Int) < (k : Int) := by omega
          go_wp2_with (refine load_lawM rfl (.tmp 114) rfl bl (ol + m * 18) xl rfl HRL.out ?_)
          refine (changes_c xl.l xl.a An nn cn (fs.getD a []) wr HLA.out HWr.out HTr.out).mono ?_
          rw [hfm.out, HAPm.out, changes_no HAPm.out, show decide (fs.getD (m + 1) [] = fs.getD m []) = true from decide_eq_true (HSAME.out m ham hmlt).symm]
          rintro e w7 ⟨rfl, hB7⟩
          have hB8 := hB6.trans (hB7.mono hB6s)
          clear hB7 hc0
          go_wp2
          go_roundw
          case rel => exact ⟨m + 1, by go_num, by omega, by omega, hfm.out.trans (HSAME.out m ham hmlt), hB8⟩
          case measure => simp [intOf]; omega
        · obtain rfl : m = k := by omega
          have hm2 : ¬ ((m : Int) < (m : Int)) := by omega
          go_wp2_with (refine load_lawM rfl (.tmp 128) rfl bl (ol + m * 18) xl rfl HRL.out ?_)
          refine (apply_c xl.l xl.a An nn cn (fs.getD a []) wr HLA.out HWr.out HTr.out).mono ?_
          rw [hfm.out, HAPm.out]
          rintro e w7 ⟨A7, n7, c7, rfl, hw7, hB7, _⟩
          have HW7 := Lib.hid hw7; clear hw7
          have hB8 := hB6.trans (hB7.mono hB6s)
          have hc2 := (hB8.cell (p := ⟨b, off + i * 3 + 2, none⟩) hb5b).trans HC2.out
          have HWQ8 := Lib.hid (HWQ5.out.below hB8 (Nat.le_refl _))
          clear hB7 hc0
          go_wp2_with fail
          refine (wEqual_c _ _ _ _ _ _ (fs.getD (m + 1) []) y w7 HW7.out HWQ8.out).mono ?_
          rintro e w8 ⟨rfl, hB9⟩
          rw [show decide (fs.getD (m + 1) [] = y) = true from decide_eq_true HY1.out.symm]
          have hB10 : Below w3.heap.size w3 w8 := hB5.trans ((hB8.trans (hB9.mono hB8.size)).mono hB5.size)
          have HW8 := Lib.hid (HW7.out.below hB9 (Nat.le_refl _))
          clear hB9 hB8 hc2
          go_wp2
          go_roundw
          case rel => exact ⟨m + 1, i + 1, A7, n7, c7, by go_num, rfl, by go_num, by omega, by omega, HLE.out.symm, HW8.out, hB10⟩
          case measure => simp [intOf]; omega
    · obtain rfl : i = ss.length := by omega
      obtain ⟨hsame, hlast⟩ := step_none (fs := fs) (n := n) (a := a) ha (by rw [← HSS.out, List.length_map]; exact hai.out)
      have HSAME := Lib.hid hsame; clear hsame
      have HLAST := Lib.hid hlast; clear hlast
      clear hai hlt
      obtain ⟨wo, hwo⟩ : ∃ wo, wo = wr := ⟨_, rfl⟩
      subst hwo
      have HWN := hwn; clear hwn
      go_wp2
      go_loopw [9] (fun va wr => ∃ m : Nat, va = .int .i64 m ∧ a ≤ m ∧ m ≤ n ∧ Hid (fs.getD a [] = fs.getD m []) ∧ Below wo.heap.size wo wr) (fun va _ => n - (intOf va).toNat)
      case atStart => exact ⟨a, rfl, Nat.le_refl _, ha, rfl, Below.refl _ _⟩
      case round =>
        obtain ⟨m, rfl, ham, hmk, hfm, hB6⟩ := hrel
        have hB6s := hB6.size
        have hBB := HB3.out.trans ((hB.trans (hB6.mono hB.size)).mono HB3.out.size)
        have HWr := Lib.hid (HWN.out.below hB6 (Nat.le_refl _))
        by_cases hmlt : m < n
        · obtain ⟨xl, hxl⟩ := HX.out.get (k := m) (by omega)
          obtain ⟨bl, ol, hAl, hbl, hrl⟩ := (HX.out.below hBB (Nat.le_refl _)).at_ hxl
          have HLA := Lib.hid ((HX.out.below hBB (Nat.le_refl _)).2 xl (List.mem_of_getElem? hxl))
          have hap := HAP.out m xl.l (by unfold lawsD; rw [List.getElem?_map, hxl]; rfl)
          have HAPm := Lib.hid hap; clear hap hxl
          have HRL := Lib.hid hrl; clear hrl
          have HTr := Lib.hid (HT.out.below hBB (Nat.le_refl _))
          subst hAl
          have hm1 : (m : Int) < (n : Int) := by omega
          go_wp2_with (refine load_lawM rfl (.tmp 158) rfl bl (ol + m * 18) xl rfl HRL.out ?_)
          refine (changes_c xl.l xl.a An nn cn (fs.getD a []) wr HLA.out HWr.out HTr.out).mono ?_
          rw [hfm.out, HAPm.out, changes_no HAPm.out, show decide (fs.getD (m + 1) [] = fs.getD m []) = true from decide_eq_true (HSAME.out m ham hmlt).symm]
          rintro e w7 ⟨rfl, hB7⟩
          have hB8 := hB6.trans (hB7.mono hB6s)
          clear hB7
          go_wp2
          go_roundw
          case rel => exact ⟨m + 1, by go_num, by omega, by omega, hfm.out.trans (HSAME.out m ham hmlt), hB8⟩
          case measure => simp [intOf]; omega
        · obtain rfl : m = n := by omega
          have hm2 : ¬ ((m : Int) < (m : Int)) := by omega
          go_wp2_with fail
          refine (wEqual_c _ _ _ _ _ _ (fs.getD a []) (fs.getD m []) wr HWr.out (HW3.out.below (hB.trans (hB6.mono hB.size)) (Nat.le_refl _))).mono ?_
          rintro e w8 ⟨rfl, hB9⟩
          rw [show decide (fs.getD a [] = fs.getD m []) = true from decide_eq_true hfm.out]
          have HB8 := Lib.hid (hBB.trans (hB9.mono hBB.size))
          go_wp2_with fail
          refine (works_c _ (HT.out.below HB8.out (Nat.le_refl _))).mono ?_
          rintro e w9 ⟨rfl, hbw⟩
          go_wp2
          go_ret
          exact ⟨rfl, Below.trans HB8.out (hbw.mono (Below.size HB8.out))⟩
end Go.Proofs.YtfgilinjaldhhaaGreatDoor

/-
  ablautlaw10.DeriveSplit is true.
-/
import Derived.Test.YtfgilinjaldhhaaGreatDoorG19
set_option linter.unusedVariables false
set_option linter.unusedSimpArgs false
namespace Go.Proofs.YtfgilinjaldhhaaGreatDoor
open Go.RowKit Go.Shelf

def RetTrue (w : World) (e : Ending) (w' : World) : Prop := e = .returned (.bool true) ∧ Below w.heap.size w w'


set_option maxRecDepth 100000 in
set_option maxHeartbeats 4000000 in
theorem deriveSplit_c (A : Option Addr) (n c : Nat) (xs : List LawR) (A' : Option Addr) (n' c' : Nat) (ys : List LawR) (Aw : Option Addr) (nw cw : Nat) (ws : List Snd) (w : World) (hx : IsLaws w A n c xs) (hy : IsLaws w A' n' c' ys) (hw : IsWord w Aw nw cw ws) (hT : TabOK w) :
    Calls Tryz.prog 4 #[.slice A n c, .slice A' n' c', .slice Aw nw cw] w (RetTrue w) := by
  have hmx := hx.max
  have hmy := hy.max
  have hmw := hw.max
  have HX := Lib.hid hx; clear hx
  have HY := Lib.hid hy; clear hy
  have HW := Lib.hid hw; clear hw
  have HT := Lib.hid hT; clear hT
  go_enter Tryz.func4, Tryz.ntmps4
  go_wp2_with fail
  refine (light_c A n c xs w HX.out).mono ?_
  rintro e w1 ⟨⟨b1, rfl⟩, hB1⟩
  have HB1 := Lib.hid hB1; clear hB1
  cases b1
  · go_wp2_with fail
    refine (works_c _ (HT.out.below HB1.out (Nat.le_refl _))).mono ?_
    rintro e w2 ⟨rfl, hbw⟩
    go_wp2
    go_ret
    exact ⟨rfl, Below.trans HB1.out (hbw.mono (Below.size HB1.out))⟩
  go_wp2_with fail
  refine (light_c A' n' c' ys w1 (HY.out.below HB1.out (Nat.le_refl _))).mono ?_
  rintro e w2 ⟨⟨b2, rfl⟩, hB2'⟩
  have hB2 := HB1.out.trans (hB2'.mono HB1.out.size)
  have HB2 := Lib.hid hB2; clear hB2 hB2' HB1
  cases b2
  · go_wp2_with fail
    refine (works_c _ (HT.out.below HB2.out (Nat.le_refl _))).mono ?_
    rintro e w3 ⟨rfl, hbw⟩
    go_wp2
    go_ret
    exact ⟨rfl, Below.trans HB2.out (hbw.mono (Below.size HB2.out))⟩
  by_cases h100 : 100 < nw
  · go_wp2_with fail
    refine (works_c _ (HT.out.below HB2.out (Nat.le_refl _))).mono ?_
    rintro e w3 ⟨rfl, hbw⟩
    go_wp2
    go_ret
    exact ⟨rfl, Below.trans HB2.out (hbw.mono (Below.size HB2.out))⟩
  go_wp2_with fail
  refine (split_c A n c xs A' n' c' ys Aw nw cw ws w2 (HX.out.below HB2.out (Nat.le_refl _)) (HY.out.below HB2.out (Nat.le_refl _)) (HW.out.below HB2.out (Nat.le_refl _)) (HT.out.below HB2.out (Nat.le_refl _))).mono ?_
  rintro e w3 ⟨rfl, hB3'⟩
  have hB3 := HB2.out.trans (hB3'.mono HB2.out.size)
  have HB3 := Lib.hid hB3; clear hB3 hB3' HB2
  by_cases hok : (formsE (lawsD xs) ws).1 = 0 ∧ (formsE (lawsD ys) ws).1 = 0
  case neg =>
    obtain ⟨e1, he1, hs1⟩ := split_bad hok
    obtain ⟨e2, he2, hs2⟩ := split_bad (a := lawsD ys) (b := lawsD xs) (ws := ws) (fun h => hok ⟨h.2, h.1⟩)
    rw [hs1]
    have HS2 := Lib.hid hs2; clear hs1 hs2 hok
    have k1 : (e1 == 0) = false := by simpa using he1
    have k2 : (e2 == 0) = false := by simpa using he2
    have k3 : (e1 != 0) = true := by simpa using he1
    clear he1 he2
    go_wp2_with fail
    refine (split_c A' n' c' ys A n c xs Aw nw cw ws w3 (HY.out.below HB3.out (Nat.le_refl _)) (HX.out.below HB3.out (Nat.le_refl _)) (HW.out.below HB3.out (Nat.le_refl _)) (HT.out.below HB3.out (Nat.le_refl _))).mono ?_
    rintro e w4 ⟨rfl, hB4'⟩
    have hB4 := HB3.out.trans (hB4'.mono HB3.out.size)
    have HB4 := Lib.hid hB4; clear hB4 hB4' HB3
    rw [HS2.out]
    go_wp2_with fail
    refine (works_c _ (HT.out.below HB4.out (Nat.le_refl _))).mono ?_
    rintro e w5 ⟨rfl, hbw⟩
    go_wp2
    go_ret
    exact ⟨rfl, Below.trans HB4.out (hbw.mono (Below.size HB4.out))⟩
  obtain ⟨h1, h2⟩ := hok
  have hs1 := split_ok h1 h2
  have hs2 := split_ok h2 h1
  have hs3 := split_ok h1 h1
  rw [spotM_comm] at hs2
  have hs3' : spotM (formsE (lawsD xs) ws).2 (formsE (lawsD xs) ws).2 = (0, false, 0) := by unfold spotM; rw [diffM_self]
  rw [hs3'] at hs3
  have hc := spot_cases h1 h2
  have hf1 := formsE_full h1
  have hf2 := formsE_full h2
  rw [List.length_map, HX.out.len] at hf1
  rw [List.length_map, HY.out.len] at hf2
  rw [List.length_map, HX.out.len, List.length_map, HY.out.len] at hc
  have HS3 := Lib.hid hs3
  have HF1 := Lib.hid (show formsE (lawsD xs) ws = (0, (formsE (lawsD xs) ws).2) by rw [← h1])
  have HF2 := Lib.hid (show formsE (lawsD ys) ws = (0, (formsE (lawsD ys) ws).2) by rw [← h2])
  obtain ⟨fa, hfa⟩ : ∃ fa, fa = (formsE (lawsD xs) ws).2 := ⟨_, rfl⟩
  obtain ⟨fb, hfb⟩ : ∃ fb, fb = (formsE (lawsD ys) ws).2 := ⟨_, rfl⟩
  rw [← hfa, ← hfb] at hc hs1 hs2
  rw [← hfa] at HF1 hf1
  rw [← hfb] at HF2 hf2
  clear hs3 hs3' h1 h2 hfa hfb
  rw [hs1]
  have HS2 := Lib.hid hs2; clear hs1 hs2
  have HL1 := Lib.hid hf1; clear hf1
  have HL2 := Lib.hid hf2; clear hf2
  rcases hc with ⟨k, hsp, hk1, hk2, hall, hne⟩ | ⟨hsp, hall⟩
  · have HNE := Lib.hid hne; clear hne
    have HK : Hid (1 ≤ k ∧ k < max (n + 1) (n' + 1)) := ⟨hk1, hk2⟩
    have hk1' : ¬ ((k : Int) < 1) := by omega
    clear hk1 hk2
    have HALL := Lib.hid hall; clear hall
    rw [hsp]
    have HSP := Lib.hid hsp; clear hsp
    go_wp2_with fail
    refine (split_c A' n' c' ys A n c xs Aw nw cw ws w3 (HY.out.below HB3.out (Nat.le_refl _)) (HX.out.below HB3.out (Nat.le_refl _)) (HW.out.below HB3.out (Nat.le_refl _)) (HT.out.below HB3.out (Nat.le_refl _))).mono ?_
    rintro e w4 ⟨rfl, hB4'⟩
    have hB4 := HB3.out.trans (hB4'.mono HB3.out.size)
    have HB4 := Lib.hid hB4; clear hB4 hB4' HB3
    rw [HS2.out, HSP.out]
    go_wp2_with fail
    refine (forms_all A n c xs Aw nw cw ws w4 (HX.out.below HB4.out (Nat.le_refl _)) (HW.out.below HB4.out (Nat.le_refl _)) (HT.out.below HB4.out (Nat.le_refl _))).mono ?_
    rw [HF1.out]
    rintro e w5 ⟨A5, n5, c5, rfl, hw5, hB5'⟩
    obtain rfl : n5 = n + 1 := by have h1 := hw5.len; have h2 := HL1.out; dsimp only at h1; omega
    have hB5 := HB4.out.trans (hB5'.mono HB4.out.size)
    have HB5 := Lib.hid hB5; clear hB5 hB5' HB4
    have HW5 := Lib.hid hw5; clear hw5
    go_wp2_with fail
    refine (forms_all A' n' c' ys Aw nw cw ws w5 (HY.out.below HB5.out (Nat.le_refl _)) (HW.out.below HB5.out (Nat.le_refl _)) (HT.out.below HB5.out (Nat.le_refl _))).mono ?_
    rw [HF2.out]
    rintro e w6 ⟨A6, n6, c6, rfl, hw6, hB6'⟩
    obtain rfl : n6 = n' + 1 := by have h1 := hw6.len; have h2 := HL2.out; dsimp only at h1; omega
    have hB6 := HB5.out.trans (hB6'.mono HB5.out.size)
    have HB6 := Lib.hid hB6
    have HW6 := Lib.hid hw6
    have HW5' := Lib.hid (HW5.out.below hB6' (Nat.le_refl _))
    clear hB6 hB6' HB5 hw6 HW5
    have hmx5 := HW5'.out.max
    have hmx6 := HW6.out.max
    obtain ⟨M, hM⟩ : ∃ M : Nat, max (n : Int) (n' : Int) = M := ⟨max n n', by omega⟩
    try have hkM : ¬ ((M : Int) + 1 ≤ (k : Int)) := by have := HK.out; omega
    try have hkM' : (k : Int) < (M : Int) + 1 := by omega
    go_wp2
    have hMa : n ≤ M := by omega
    have hMb : n' ≤ M := by omega
    have HM2 : Hid (M = n ∨ M = n') := by show M = n ∨ M = n'; omega
    have hMx : M + 1 ≤ 9223372036854775807 := by omega
    clear hM
    try clear hkM
    go_loopw [18] (fun i wr => ∃ j : Nat, j ≤ M + 1 ∧ i = .int .i64 j ∧ Below w6.heap.size w6 wr) (fun i _ => M + 1 - (intOf i).toNat)
    case atStart => exact ⟨0, Nat.zero_le _, rfl, Below.refl _ _⟩
    case round =>
      obtain ⟨j, hj, rfl, hB⟩ := hrel
      have hBs := hB.size
      by_cases hlt : j < M + 1
      · obtain ⟨i1, hi1⟩ : ∃ i1, i1 = min j n := ⟨_, rfl⟩
        obtain ⟨i2, hi2⟩ : ∃ i2, i2 = min j n' := ⟨_, rfl⟩
        obtain ⟨b, off, Ax, nx, cx, x5, hA5, hb5, hc5, hx5, hw5⟩ := (HW5'.out.below hB (Nat.le_refl _)).at_ (k := i1) (by omega)
        obtain ⟨b', off', Ay, ny, cy, x6, hA6, hb6, hc6, hx6, hw6⟩ := (HW6.out.below hB (Nat.le_refl _)).at_ (k := i2) (by omega)
        subst hA5 hA6
        have hfa : formK fa j = x5 := by unfold formK; rw [HL1.out, Nat.add_sub_cancel, ← hi1]; rw [hx5]; rfl
        have hfb : formK fb j = x6 := by unfold formK; rw [HL2.out, Nat.add_sub_cancel, ← hi2]; rw [hx6]; rfl
        have HFa := Lib.hid hfa; clear hfa
        have HFb := Lib.hid hfb; clear hfb
        have HWx := Lib.hid hw5; clear hw5 hx5
        have HWy := Lib.hid hw6; clear hw6 hx6
        have e1 : min (j : Int) (n : Int) = (i1 : Int) := by omega
        have e2 : min (j : Int) (n' : Int) = (i2 : Int) := by omega
        have e3 : (i1 : Int) < (n : Int) + 1 := by omega
        have e4 : (i2 : Int) < (n' : Int) + 1 := by omega
        clear hi1 hi2
        go_wp2
        have hwa : IntKind.i64.wrap (n : Int) = n := IntWalk.i64_in _ (by omega)
        have hwb : IntKind.i64.wrap (n' : Int) = n' := IntWalk.i64_in _ (by omega)
        have ha63 : (n : Int) + 1 ≤ 9223372036854775807 := by omega
        have hb63 : (n' : Int) + 1 ≤ 9223372036854775807 := by omega
        refine plain_region (fun W' => W'.cell? ⟨b, off + i1, none⟩ = some (.slice Ax nx cx) ∧ W'.cell? ⟨b', off' + i2, none⟩ = some (.slice Ay ny cy)) (by kernel_rfl) ⟨hc5, hc6⟩ (fun hHeld => ?_)
        (refine' anyT_take (i := 0) (v := _) rfl (by kernel_rfl) (by kernel_rfl) (by kernel_rfl) (by kernel_rfl) (fun _ _ _ h => h) (Or.inl ⟨by rfl, fun w' hSw => by (try dsimp only at hSw); go_split_ands; go_simp; (try with_reducible rfl)⟩) (by assumption) ?_; (try simp only [Act.put, List.getElem_toArray, List.getElem_cons_zero, List.getElem_cons_succ, List.setIfInBounds_toArray, List.set_cons_zero, List.set_cons_succ])); (refine' anyT_take (i := 1) (v := _) rfl (by kernel_rfl) (by kernel_rfl) (by kernel_rfl) (by kernel_rfl) (fun _ _ _ h => h) (Or.inl ⟨by rfl, fun w' hSw => by (try dsimp only at hSw); go_split_ands; go_simp; (try with_reducible rfl)⟩) (by assumption) ?_; (try simp only [Act.put, List.getElem_toArray, List.getElem_cons_zero, List.getElem_cons_succ, List.setIfInBounds_toArray, List.set_cons_zero, List.set_cons_succ])); (refine' anyT_take (i := 2) (v := _) rfl (by kernel_rfl) (by kernel_rfl) (by kernel_rfl) (by kernel_rfl) (fun _ _ _ h => h) (Or.inl ⟨by rfl, fun w' hSw => by (try dsimp only at hSw); go_split_ands; go_simp; (try with_reducible rfl)⟩) (by assumption) ?_; (try simp only [Act.put, List.getElem_toArray, List.getElem_cons_zero, List.getElem_cons_succ, List.setIfInBounds_toArray, List.set_cons_zero, List.set_cons_succ])); (refine' anyT_take (i := 3) (v := _) rfl (by kernel_rfl) (by kernel_rfl) (by kernel_rfl) (by kernel_rfl) (fun _ _ _ h => h) (Or.inl ⟨by rfl, fun w' hSw => by (try dsimp only at hSw); go_split_ands; go_simp; (try with_reducible rfl)⟩) (by assumption) ?_; (try simp only [Act.put, List.getElem_toArray, List.getElem_cons_zero, List.getElem_cons_succ, List.setIfInBounds_toArray, List.set_cons_zero, List.set_cons_succ])); (refine' anyT_take (i := 4) (v := _) rfl (by kernel_rfl) (by kernel_rfl) (by kernel_rfl) (by kernel_rfl) (fun _ _ _ h => h) (Or.inl ⟨by rfl, fun w' hSw => by (try dsimp only at hSw); go_split_ands; go_simp; (try with_reducible rfl)⟩) (by assumption) ?_; (try simp only [Act.put, List.getElem_toArray, List.getElem_cons_zero, List.getElem_cons_succ, List.setIfInBounds_toArray, List.set_cons_zero, List.set_cons_succ])); (refine' anyT_take (i := 5) (v := _) rfl (by kernel_rfl) (by kernel_rfl) (by kernel_rfl) (by kernel_rfl) (fun _ _ _ h => h) (Or.inl ⟨by rfl, fun w' hSw => by (try dsimp only at hSw); go_split_ands; go_simp; (try with_reducible rfl)⟩) (by assumption) ?_; (try simp only [Act.put, List.getElem_toArray, List.getElem_cons_zero, List.getElem_cons_succ, List.setIfInBounds_toArray, List.set_cons_zero, List.set_cons_succ])); (refine' anyT_take (i := 6) (v := _) rfl (by kernel_rfl) (by kernel_rfl) (by kernel_rfl) (by kernel_rfl) (fun _ _ _ h => h) (Or.inl ⟨by rfl, fun w' hSw => by (try dsimp only at hSw); go_split_ands; go_simp; (try with_reducible rfl)⟩) (by assumption) ?_; (try simp only [Act.put, List.getElem_toArray, List.getElem_cons_zero, List.getElem_cons_succ, List.setIfInBounds_toArray, List.set_cons_zero, List.set_cons_succ])); (refine' anyT_take (i := 7) (v := _) rfl (by kernel_rfl) (by kernel_rfl) (by kernel_rfl) (by kernel_rfl) (fun _ _ _ h => h) (Or.inl ⟨by rfl, fun w' hSw => by (try dsimp only at hSw); go_split_ands; go_simp; (try with_reducible rfl)⟩) (by assumption) ?_; (try simp only [Act.put, List.getElem_toArray, List.getElem_cons_zero, List.getElem_cons_succ, List.setIfInBounds_toArray, List.set_cons_zero, List.set_cons_succ])); (refine' anyT_take (i := 8) (v := _) rfl (by kernel_rfl) (by kernel_rfl) (by kernel_rfl) (by kernel_rfl) (fun _ _ _ h => h) (Or.inl ⟨by rfl, fun w' hSw => by (try dsimp only at hSw); go_split_ands; go_simp; (try with_reducible rfl)⟩) (by assumption) ?_; (try simp only [Act.put, List.getElem_toArray, List.getElem_cons_zero, List.getElem_cons_succ, List.setIfInBounds_toArray, List.set_cons_zero, List.set_cons_succ])); (refine' anyT_take (i := 9) (v := _) rfl (by kernel_rfl) (by kernel_rfl) (by kernel_rfl) (by kernel_rfl) (fun _ _ _ h => h) (Or.inl ⟨by rfl, fun w' hSw => by (try dsimp only at hSw); go_split_ands; go_simp; (try with_reducible rfl)⟩) (by assumption) ?_; (try simp only [Act.put, List.getElem_toArray, List.getElem_cons_zero, List.getElem_cons_succ, List.setIfInBounds_toArray, List.set_cons_zero, List.set_cons_succ])); (refine' anyT_take (i := 10) (v := _) rfl (by kernel_rfl) (by kernel_rfl) (by kernel_rfl) (by kernel_rfl) (fun _ _ _ h => h) (Or.inl ⟨by rfl, fun w' hSw => by (try dsimp only at hSw); go_split_ands; go_simp; (try with_reducible rfl)⟩) (by assumption) ?_; (try simp only [Act.put, List.getElem_toArray, List.getElem_cons_zero, List.getElem_cons_succ, List.setIfInBounds_toArray, List.set_cons_zero, List.set_cons_succ])); (refine' anyT_take (i := 11) (v := _) rfl (by kernel_rfl) (by kernel_rfl) (by kernel_rfl) (by kernel_rfl) (fun _ _ _ h => h) (Or.inl ⟨by rfl, fun w' hSw => by (try dsimp only at hSw); go_split_ands; go_simp; (try with_reducible rfl)⟩) (by assumption) ?_; (try simp only [Act.put, List.getElem_toArray, List.getElem_cons_zero, List.getElem_cons_succ, List.setIfInBounds_toArray, List.set_cons_zero, List.set_cons_succ])); (refine' anyT_take (i := 12) (v := _) rfl (by kernel_rfl) (by kernel_rfl) (by kernel_rfl) (by kernel_rfl) (fun _ _ _ h => h) (Or.inl ⟨by rfl, fun w' hSw => by (try dsimp only at hSw); go_split_ands; go_simp; (try with_reducible rfl)⟩) (by assumption) ?_; (try simp only [Act.put, List.getElem_toArray, List.getElem_cons_zero, List.getElem_cons_succ, List.setIfInBounds_toArray, List.set_cons_zero, List.set_cons_succ])); (refine' anyT_take (i := 13) (v := _) rfl (by kernel_rfl) (by kernel_rfl) (by kernel_rfl) (by kernel_rfl) (fun _ _ _ h => h) (Or.inl ⟨by rfl, fun w' hSw => by (try dsimp only at hSw); go_split_ands; go_simp; (try with_reducible rfl)⟩) (by assumption) ?_; (try simp only [Act.put, List.getElem_toArray, List.getElem_cons_zero, List.getElem_cons_succ, List.setIfInBounds_toArray, List.set_cons_zero, List.set_cons_succ])); (refine' anyT_take (i := 14) (v := _) rfl (by kernel_rfl) (by kernel_rfl) (by kernel_rfl) (by kernel_rfl) (fun _ _ _ h => h) (Or.inl ⟨by rfl, fun w' hSw => by (try dsimp only at hSw); go_split_ands; go_simp; (try with_reducible rfl)⟩) (by assumption) ?_; (try simp only [Act.put, List.getElem_toArray, List.getElem_cons_zero, List.getElem_cons_succ, List.setIfInBounds_toArray, List.set_cons_zero, List.set_cons_succ])); (refine' anyT_take (i := 15) (v := _) rfl (by kernel_rfl) (by kernel_rfl) (by kernel_rfl) (by kernel_rfl) (fun _ _ _ h => h) (Or.inl ⟨by rfl, fun w' hSw => by (try dsimp only at hSw); go_split_ands; go_simp; (try with_reducible rfl)⟩) (by assumption) ?_; (try simp only [Act.put, List.getElem_toArray, List.getElem_cons_zero, List.getElem_cons_succ, List.setIfInBounds_toArray, List.set_cons_zero, List.set_cons_succ]))
        clear hwa hwb ha63 hb63 e1 e2 e3 e4 hc5 hc6
        (refine anyT_step (i := 16) (by kernel_rfl) rfl (fun K' hK' => ?_); simp only [List.getElem_toArray, List.getElem_cons_zero, List.getElem_cons_succ]; go_simp)
        refine (wEqual_c Ax Ay nx ny cx cy x5 x6 _ (HWx.out.below (B := wr.heap.size) ((Below.refl wr.heap.size wr).drew) (Nat.le_refl _)) (HWy.out.below (B := wr.heap.size) ((Below.refl wr.heap.size wr).drew) (Nat.le_refl _))).mono ?_
        rintro e w7 ⟨rfl, hb7'⟩
        have hb7 : Below wr.heap.size wr w7 := (Below.refl wr.heap.size wr).drew.trans hb7'
        obtain ⟨q1, q2⟩ := hHeld
        refine hK' _ _ ⟨.inr ⟨(hb7.cell (p := ⟨b, off + i1, none⟩) (by assumption)).trans q1, (hb7.cell (p := ⟨b', off' + i2, none⟩) (by assumption)).trans q2⟩, fun _ => ?_⟩
        clear hK' K' hb7' q1 q2
        have hB7 : Below w6.heap.size w6 w7 := hB.trans (hb7.mono hBs)
        clear hb7
        (try simp only [Act.put, List.getElem_toArray, List.getElem_cons_zero, List.getElem_cons_succ, List.setIfInBounds_toArray, List.set_cons_zero, List.set_cons_succ])
        (refine anyT_step (i := 17) (by kernel_rfl) rfl (fun K' hK' => ?_); simp only [List.getElem_toArray, List.getElem_cons_zero, List.getElem_cons_succ]; go_simp)
        refine hK' _ _ ⟨.inl (by kernel_rfl), fun _ => anyT_done (by kernel_rfl) ?_ _⟩
        clear hK' K'
        obtain ⟨d, hd⟩ : ∃ d, d = decide (x5 = x6) := ⟨_, rfl⟩
        rw [← hd]
        have HDD := Lib.hid hd; clear hd
        have HA' : Hid (∀ h : formK fa j = formK fb j, d = true) := by
          intro h
          rw [HDD.out]; exact decide_eq_true (by rw [← HFa.out, ← HFb.out]; exact h)
        rcases Nat.lt_trichotomy j k with hjk | hjk | hjk
        · obtain rfl : d = true := HA'.out (HALL.out j hjk)
          have hj1 : (j : Int) < (k : Int) := by omega
          have hj2 : ((j : Int) == (k : Int)) = false := by simp; omega
          go_wp2
          go_roundw
          case rel => exact ⟨j + 1, by omega, by go_num, hB7⟩
          case measure => simp [intOf]; omega
        · subst hjk
          obtain rfl : d = false := by
            rw [HDD.out]; apply decide_eq_false; intro h; exact HNE.out (by rw [HFa.out, HFb.out]; exact h)
          go_wp2
          go_roundw
          case rel => exact ⟨j + 1, by omega, by go_num, hB7⟩
          case measure => simp [intOf]; omega
        · have hj1 : ¬ ((j : Int) < (k : Int)) := by omega
          have hj2 : ((j : Int) == (k : Int)) = false := by simp; omega
          cases d
          · go_wp2
            go_roundw
            case rel => exact ⟨j + 1, by omega, by go_num, hB7⟩
            case measure => simp [intOf]; omega
          · go_wp2
            go_roundw
            case rel => exact ⟨j + 1, by omega, by go_num, hB7⟩
            case measure => simp [intOf]; omega
      · obtain rfl : j = M + 1 := by omega
        go_wp2_with fail
        have hB6 := HB6.out.trans (hB.mono HB6.out.size)
        have HBZ := Lib.hid hB6; clear hB6
        refine (split_c A n c xs A n c xs Aw nw cw ws wr (HX.out.below HBZ.out (Nat.le_refl _)) (HX.out.below HBZ.out (Nat.le_refl _)) (HW.out.below HBZ.out (Nat.le_refl _)) (HT.out.below HBZ.out (Nat.le_refl _))).mono ?_
        rw [HS3.out]
        rintro e w7 ⟨rfl, hB7'⟩
        have hB7 := HBZ.out.trans (hB7'.mono HBZ.out.size)
        have HB7 := Lib.hid hB7; clear hB7 hB7' hB HBZ
        go_wp2_with fail
        refine (works_c _ (HT.out.below HB7.out (Nat.le_refl _))).mono ?_
        rintro e w8 ⟨rfl, hbw⟩
        go_wp2
        go_ret
        exact ⟨rfl, Below.trans HB7.out (hbw.mono (Below.size HB7.out))⟩
  · have HALL := Lib.hid hall; clear hall
    rw [hsp]
    have HSP := Lib.hid hsp; clear hsp
    go_wp2_with fail
    refine (split_c A' n' c' ys A n c xs Aw nw cw ws w3 (HY.out.below HB3.out (Nat.le_refl _)) (HX.out.below HB3.out (Nat.le_refl _)) (HW.out.below HB3.out (Nat.le_refl _)) (HT.out.below HB3.out (Nat.le_refl _))).mono ?_
    rintro e w4 ⟨rfl, hB4'⟩
    have hB4 := HB3.out.trans (hB4'.mono HB3.out.size)
    have HB4 := Lib.hid hB4; clear hB4 hB4' HB3
    rw [HS2.out, HSP.out]
    go_wp2_with fail
    refine (forms_all A n c xs Aw nw cw ws w4 (HX.out.below HB4.out (Nat.le_refl _)) (HW.out.below HB4.out (Nat.le_refl _)) (HT.out.below HB4.out (Nat.le_refl _))).mono ?_
    rw [HF1.out]
    rintro e w5 ⟨A5, n5, c5, rfl, hw5, hB5'⟩
    obtain rfl : n5 = n + 1 := by have h1 := hw5.len; have h2 := HL1.out; dsimp only at h1; omega
    have hB5 := HB4.out.trans (hB5'.mono HB4.out.size)
    have HB5 := Lib.hid hB5; clear hB5 hB5' HB4
    have HW5 := Lib.hid hw5; clear hw5
    go_wp2_with fail
    refine (forms_all A' n' c' ys Aw nw cw ws w5 (HY.out.below HB5.out (Nat.le_refl _)) (HW.out.below HB5.out (Nat.le_refl _)) (HT.out.below HB5.out (Nat.le_refl _))).mono ?_
    rw [HF2.out]
    rintro e w6 ⟨A6, n6, c6, rfl, hw6, hB6'⟩
    obtain rfl : n6 = n' + 1 := by have h1 := hw6.len; have h2 := HL2.out; dsimp only at h1; omega
    have hB6 := HB5.out.trans (hB6'.mono HB5.out.size)
    have HB6 := Lib.hid hB6
    have HW6 := Lib.hid hw6
    have HW5' := Lib.hid (HW5.out.below hB6' (Nat.le_refl _))
    clear hB6 hB6' HB5 hw6 HW5
    have hmx5 := HW5'.out.max
    have hmx6 := HW6.out.max
    obtain ⟨M, hM⟩ : ∃ M : Nat, max (n : Int) (n' : Int) = M := ⟨max n n', by omega⟩
    try have hkM : ¬ ((M : Int) + 1 ≤ (k : Int)) := by have := HK.out; omega
    try have hkM' : (k : Int) < (M : Int) + 1 := by omega
    go_wp2
    have hMa : n ≤ M := by omega
    have hMb : n' ≤ M := by omega
    have HM2 : Hid (M = n ∨ M = n') := by show M = n ∨ M = n'; omega
    have hMx : M + 1 ≤ 9223372036854775807 := by omega
    clear hM
    try clear hkM
    go_loopw [18] (fun i wr => ∃ j : Nat, j ≤ M + 1 ∧ i = .int .i64 j ∧ Below w6.heap.size w6 wr) (fun i _ => M + 1 - (intOf i).toNat)
    case atStart => exact ⟨0, Nat.zero_le _, rfl, Below.refl _ _⟩
    case round =>
      obtain ⟨j, hj, rfl, hB⟩ := hrel
      have hBs := hB.size
      by_cases hlt : j < M + 1
      · obtain ⟨i1, hi1⟩ : ∃ i1, i1 = min j n := ⟨_, rfl⟩
        obtain ⟨i2, hi2⟩ : ∃ i2, i2 = min j n' := ⟨_, rfl⟩
        obtain ⟨b, off, Ax, nx, cx, x5, hA5, hb5, hc5, hx5, hw5⟩ := (HW5'.out.below hB (Nat.le_refl _)).at_ (k := i1) (by omega)
        obtain ⟨b', off', Ay, ny, cy, x6, hA6, hb6, hc6, hx6, hw6⟩ := (HW6.out.below hB (Nat.le_refl _)).at_ (k := i2) (by omega)
        subst hA5 hA6
        have hfa : formK fa j = x5 := by unfold formK; rw [HL1.out, Nat.add_sub_cancel, ← hi1]; rw [hx5]; rfl
        have hfb : formK fb j = x6 := by unfold formK; rw [HL2.out, Nat.add_sub_cancel, ← hi2]; rw [hx6]; rfl
        have HFa := Lib.hid hfa; clear hfa
        have HFb := Lib.hid hfb; clear hfb
        have HWx := Lib.hid hw5; clear hw5 hx5
        have HWy := Lib.hid hw6; clear hw6 hx6
        have e1 : min (j : Int) (n : Int) = (i1 : Int) := by omega
        have e2 : min (j : Int) (n' : Int) = (i2 : Int) := by omega
        have e3 : (i1 : Int) < (n : Int) + 1 := by omega
        have e4 : (i2 : Int) < (n' : Int) + 1 := by omega
        clear hi1 hi2
        go_wp2
        have hwa : IntKind.i64.wrap (n : Int) = n := IntWalk.i64_in _ (by omega)
        have hwb : IntKind.i64.wrap (n' : Int) = n' := IntWalk.i64_in _ (by omega)
        have ha63 : (n : Int) + 1 ≤ 9223372036854775807 := by omega
        have hb63 : (n' : Int) + 1 ≤ 9223372036854775807 := by omega
        refine plain_region (fun W' => W'.cell? ⟨b, off + i1, none⟩ = some (.slice Ax nx cx) ∧ W'.cell? ⟨b', off' + i2, none⟩ = some (.slice Ay ny cy)) (by kernel_rfl) ⟨hc5, hc6⟩ (fun hHeld => ?_)
        (refine' anyT_take (i := 0) (v := _) rfl (by kernel_rfl) (by kernel_rfl) (by kernel_rfl) (by kernel_rfl) (fun _ _ _ h => h) (Or.inl ⟨by rfl, fun w' hSw => by (try dsimp only at hSw); go_split_ands; go_simp; (try with_reducible rfl)⟩) (by assumption) ?_; (try simp only [Act.put, List.getElem_toArray, List.getElem_cons_zero, List.getElem_cons_succ, List.setIfInBounds_toArray, List.set_cons_zero, List.set_cons_succ])); (refine' anyT_take (i := 1) (v := _) rfl (by kernel_rfl) (by kernel_rfl) (by kernel_rfl) (by kernel_rfl) (fun _ _ _ h => h) (Or.inl ⟨by rfl, fun w' hSw => by (try dsimp only at hSw); go_split_ands; go_simp; (try with_reducible rfl)⟩) (by assumption) ?_; (try simp only [Act.put, List.getElem_toArray, List.getElem_cons_zero, List.getElem_cons_succ, List.setIfInBounds_toArray, List.set_cons_zero, List.set_cons_succ])); (refine' anyT_take (i := 2) (v := _) rfl (by kernel_rfl) (by kernel_rfl) (by kernel_rfl) (by kernel_rfl) (fun _ _ _ h => h) (Or.inl ⟨by rfl, fun w' hSw => by (try dsimp only at hSw); go_split_ands; go_simp; (try with_reducible rfl)⟩) (by assumption) ?_; (try simp only [Act.put, List.getElem_toArray, List.getElem_cons_zero, List.getElem_cons_succ, List.setIfInBounds_toArray, List.set_cons_zero, List.set_cons_succ])); (refine' anyT_take (i := 3) (v := _) rfl (by kernel_rfl) (by kernel_rfl) (by kernel_rfl) (by kernel_rfl) (fun _ _ _ h => h) (Or.inl ⟨by rfl, fun w' hSw => by (try dsimp only at hSw); go_split_ands; go_simp; (try with_reducible rfl)⟩) (by assumption) ?_; (try simp only [Act.put, List.getElem_toArray, List.getElem_cons_zero, List.getElem_cons_succ, List.setIfInBounds_toArray, List.set_cons_zero, List.set_cons_succ])); (refine' anyT_take (i := 4) (v := _) rfl (by kernel_rfl) (by kernel_rfl) (by kernel_rfl) (by kernel_rfl) (fun _ _ _ h => h) (Or.inl ⟨by rfl, fun w' hSw => by (try dsimp only at hSw); go_split_ands; go_simp; (try with_reducible rfl)⟩) (by assumption) ?_; (try simp only [Act.put, List.getElem_toArray, List.getElem_cons_zero, List.getElem_cons_succ, List.setIfInBounds_toArray, List.set_cons_zero, List.set_cons_succ])); (refine' anyT_take (i := 5) (v := _) rfl (by kernel_rfl) (by kernel_rfl) (by kernel_rfl) (by kernel_rfl) (fun _ _ _ h => h) (Or.inl ⟨by rfl, fun w' hSw => by (try dsimp only at hSw); go_split_ands; go_simp; (try with_reducible rfl)⟩) (by assumption) ?_; (try simp only [Act.put, List.getElem_toArray, List.getElem_cons_zero, List.getElem_cons_succ, List.setIfInBounds_toArray, List.set_cons_zero, List.set_cons_succ])); (refine' anyT_take (i := 6) (v := _) rfl (by kernel_rfl) (by kernel_rfl) (by kernel_rfl) (by kernel_rfl) (fun _ _ _ h => h) (Or.inl ⟨by rfl, fun w' hSw => by (try dsimp only at hSw); go_split_ands; go_simp; (try with_reducible rfl)⟩) (by assumption) ?_; (try simp only [Act.put, List.getElem_toArray, List.getElem_cons_zero, List.getElem_cons_succ, List.setIfInBounds_toArray, List.set_cons_zero, List.set_cons_succ])); (refine' anyT_take (i := 7) (v := _) rfl (by kernel_rfl) (by kernel_rfl) (by kernel_rfl) (by kernel_rfl) (fun _ _ _ h => h) (Or.inl ⟨by rfl, fun w' hSw => by (try dsimp only at hSw); go_split_ands; go_simp; (try with_reducible rfl)⟩) (by assumption) ?_; (try simp only [Act.put, List.getElem_toArray, List.getElem_cons_zero, List.getElem_cons_succ, List.setIfInBounds_toArray, List.set_cons_zero, List.set_cons_succ])); (refine' anyT_take (i := 8) (v := _) rfl (by kernel_rfl) (by kernel_rfl) (by kernel_rfl) (by kernel_rfl) (fun _ _ _ h => h) (Or.inl ⟨by rfl, fun w' hSw => by (try dsimp only at hSw); go_split_ands; go_simp; (try with_reducible rfl)⟩) (by assumption) ?_; (try simp only [Act.put, List.getElem_toArray, List.getElem_cons_zero, List.getElem_cons_succ, List.setIfInBounds_toArray, List.set_cons_zero, List.set_cons_succ])); (refine' anyT_take (i := 9) (v := _) rfl (by kernel_rfl) (by kernel_rfl) (by kernel_rfl) (by kernel_rfl) (fun _ _ _ h => h) (Or.inl ⟨by rfl, fun w' hSw => by (try dsimp only at hSw); go_split_ands; go_simp; (try with_reducible rfl)⟩) (by assumption) ?_; (try simp only [Act.put, List.getElem_toArray, List.getElem_cons_zero, List.getElem_cons_succ, List.setIfInBounds_toArray, List.set_cons_zero, List.set_cons_succ])); (refine' anyT_take (i := 10) (v := _) rfl (by kernel_rfl) (by kernel_rfl) (by kernel_rfl) (by kernel_rfl) (fun _ _ _ h => h) (Or.inl ⟨by rfl, fun w' hSw => by (try dsimp only at hSw); go_split_ands; go_simp; (try with_reducible rfl)⟩) (by assumption) ?_; (try simp only [Act.put, List.getElem_toArray, List.getElem_cons_zero, List.getElem_cons_succ, List.setIfInBounds_toArray, List.set_cons_zero, List.set_cons_succ])); (refine' anyT_take (i := 11) (v := _) rfl (by kernel_rfl) (by kernel_rfl) (by kernel_rfl) (by kernel_rfl) (fun _ _ _ h => h) (Or.inl ⟨by rfl, fun w' hSw => by (try dsimp only at hSw); go_split_ands; go_simp; (try with_reducible rfl)⟩) (by assumption) ?_; (try simp only [Act.put, List.getElem_toArray, List.getElem_cons_zero, List.getElem_cons_succ, List.setIfInBounds_toArray, List.set_cons_zero, List.set_cons_succ])); (refine' anyT_take (i := 12) (v := _) rfl (by kernel_rfl) (by kernel_rfl) (by kernel_rfl) (by kernel_rfl) (fun _ _ _ h => h) (Or.inl ⟨by rfl, fun w' hSw => by (try dsimp only at hSw); go_split_ands; go_simp; (try with_reducible rfl)⟩) (by assumption) ?_; (try simp only [Act.put, List.getElem_toArray, List.getElem_cons_zero, List.getElem_cons_succ, List.setIfInBounds_toArray, List.set_cons_zero, List.set_cons_succ])); (refine' anyT_take (i := 13) (v := _) rfl (by kernel_rfl) (by kernel_rfl) (by kernel_rfl) (by kernel_rfl) (fun _ _ _ h => h) (Or.inl ⟨by rfl, fun w' hSw => by (try dsimp only at hSw); go_split_ands; go_simp; (try with_reducible rfl)⟩) (by assumption) ?_; (try simp only [Act.put, List.getElem_toArray, List.getElem_cons_zero, List.getElem_cons_succ, List.setIfInBounds_toArray, List.set_cons_zero, List.set_cons_succ])); (refine' anyT_take (i := 14) (v := _) rfl (by kernel_rfl) (by kernel_rfl) (by kernel_rfl) (by kernel_rfl) (fun _ _ _ h => h) (Or.inl ⟨by rfl, fun w' hSw => by (try dsimp only at hSw); go_split_ands; go_simp; (try with_reducible rfl)⟩) (by assumption) ?_; (try simp only [Act.put, List.getElem_toArray, List.getElem_cons_zero, List.getElem_cons_succ, List.setIfInBounds_toArray, List.set_cons_zero, List.set_cons_succ])); (refine' anyT_take (i := 15) (v := _) rfl (by kernel_rfl) (by kernel_rfl) (by kernel_rfl) (by kernel_rfl) (fun _ _ _ h => h) (Or.inl ⟨by rfl, fun w' hSw => by (try dsimp only at hSw); go_split_ands; go_simp; (try with_reducible rfl)⟩) (by assumption) ?_; (try simp only [Act.put, List.getElem_toArray, List.getElem_cons_zero, List.getElem_cons_succ, List.setIfInBounds_toArray, List.set_cons_zero, List.set_cons_succ]))
        clear hwa hwb ha63 hb63 e1 e2 e3 e4 hc5 hc6
        (refine anyT_step (i := 16) (by kernel_rfl) rfl (fun K' hK' => ?_); simp only [List.getElem_toArray, List.getElem_cons_zero, List.getElem_cons_succ]; go_simp)
        refine (wEqual_c Ax Ay nx ny cx cy x5 x6 _ (HWx.out.below (B := wr.heap.size) ((Below.refl wr.heap.size wr).drew) (Nat.le_refl _)) (HWy.out.below (B := wr.heap.size) ((Below.refl wr.heap.size wr).drew) (Nat.le_refl _))).mono ?_
        rintro e w7 ⟨rfl, hb7'⟩
        have hb7 : Below wr.heap.size wr w7 := (Below.refl wr.heap.size wr).drew.trans hb7'
        obtain ⟨q1, q2⟩ := hHeld
        refine hK' _ _ ⟨.inr ⟨(hb7.cell (p := ⟨b, off + i1, none⟩) (by assumption)).trans q1, (hb7.cell (p := ⟨b', off' + i2, none⟩) (by assumption)).trans q2⟩, fun _ => ?_⟩
        clear hK' K' hb7' q1 q2
        have hB7 : Below w6.heap.size w6 w7 := hB.trans (hb7.mono hBs)
        clear hb7
        (try simp only [Act.put, List.getElem_toArray, List.getElem_cons_zero, List.getElem_cons_succ, List.setIfInBounds_toArray, List.set_cons_zero, List.set_cons_succ])
        (refine anyT_step (i := 17) (by kernel_rfl) rfl (fun K' hK' => ?_); simp only [List.getElem_toArray, List.getElem_cons_zero, List.getElem_cons_succ]; go_simp)
        refine hK' _ _ ⟨.inl (by kernel_rfl), fun _ => anyT_done (by kernel_rfl) ?_ _⟩
        clear hK' K'
        obtain ⟨d, hd⟩ : ∃ d, d = decide (x5 = x6) := ⟨_, rfl⟩
        rw [← hd]
        have HDD := Lib.hid hd; clear hd
        have HA' : Hid (∀ h : formK fa j = formK fb j, d = true) := by
          intro h
          rw [HDD.out]; exact decide_eq_true (by rw [← HFa.out, ← HFb.out]; exact h)
        obtain rfl : d = true := HA'.out (HALL.out j (by have := HM2.out; omega))
        go_wp2
        go_roundw
        case rel => exact ⟨j + 1, by omega, by go_num, hB7⟩
        case measure => simp [intOf]; omega
      · obtain rfl : j = M + 1 := by omega
        go_wp2_with fail
        have hB6 := HB6.out.trans (hB.mono HB6.out.size)
        have HBZ := Lib.hid hB6; clear hB6
        refine (split_c A n c xs A n c xs Aw nw cw ws wr (HX.out.below HBZ.out (Nat.le_refl _)) (HX.out.below HBZ.out (Nat.le_refl _)) (HW.out.below HBZ.out (Nat.le_refl _)) (HT.out.below HBZ.out (Nat.le_refl _))).mono ?_
        rw [HS3.out]
        rintro e w7 ⟨rfl, hB7'⟩
        have hB7 := HBZ.out.trans (hB7'.mono HBZ.out.size)
        have HB7 := Lib.hid hB7; clear hB7 hB7' hB HBZ
        go_wp2_with fail
        refine (works_c _ (HT.out.below HB7.out (Nat.le_refl _))).mono ?_
        rintro e w8 ⟨rfl, hbw⟩
        go_wp2
        go_ret
        exact ⟨rfl, Below.trans HB7.out (hbw.mono (Below.size HB7.out))⟩

end Go.Proofs.YtfgilinjaldhhaaGreatDoor

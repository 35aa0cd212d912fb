/-
  ablautlaw10.DeriveCounts is true.
-/
import Derived.Test.YtfgilinjaldhhaaGreatDoorXSteps1
import Derived.Test.YtfgilinjaldhhaaGreatDoorXCountsL
import Derived.Test.YtfgilinjaldhhaaGreatDoorXPairs1
import Derived.Test.YtfgilinjaldhhaaGreatDoorXShort
set_option linter.unusedVariables false
set_option linter.unusedSimpArgs false
namespace Go.Proofs.YtfgilinjaldhhaaGreatDoor
open Go.RowKit Go.Shelf


theorem IsPairs.at_ {w : World} {A : Option Addr} {n c : Nat} {ss : List PairR} (h : IsPairs w A n c ss) {k : Nat} {s : PairR} (hs : ss[k]? = some s) :
    ∃ b off, A = some ⟨b, off, none⟩ ∧ b < w.heap.size ∧ w.cell? ⟨b, off + k * 2, none⟩ = some s.p.val ∧ w.cell? ⟨b, off + k * 2 + 1, none⟩ = some s.q.val := by
  obtain ⟨b, off, hA, hb, hc⟩ := h.1.at_ PairR.len (by decide) hs
  exact ⟨b, off, hA, hb, hc 0 _ rfl, hc 1 _ rfl⟩
theorem IsSteps.at_' {w : World} {A : Option Addr} {n c : Nat} {ss : List StepR} (h : IsSteps w A n c ss) {k : Nat} {s : StepR} (hs : ss[k]? = some s) :
    ∃ b off, A = some ⟨b, off, none⟩ ∧ b < w.heap.size ∧ w.cell? ⟨b, off + k * 3, none⟩ = some (.int .i64 s.k) := by
  obtain ⟨b, off, hA, hb, hc⟩ := h.1.at_ StepR.len (by decide) hs
  exact ⟨b, off, hA, hb, hc 0 _ rfl⟩

theorem steps_lt {fs : List (List Snd)} {n k : Nat} {s : Nat × List Snd × List Snd} (h : (stepsL fs n)[k]? = some s) : s.1 < n := by
  obtain ⟨i, hi, hs⟩ := List.mem_flatMap.1 (List.mem_of_getElem? h)
  have := List.mem_range.1 hi
  unfold stepAt at hs
  split at hs
  · simp at hs
  · obtain rfl : s = _ := by simpa using hs
    exact this

set_option maxRecDepth 100000 in
set_option maxHeartbeats 4000000 in
theorem deriveCounts_c (A : Option Addr) (n c : Nat) (xs : List LawR) (A' : Option Addr) (n' c' : Nat) (wss : List (List Snd)) (w : World) (hx : IsLaws w A n c xs) (hw : IsWords w A' n' c' wss) (hT : TabOK w) :
    Calls Tryz.prog 9 #[.slice A n c, .slice A' n' c'] w (RetTrue w) := by
  have hmx := hx.max
  have hmw := hw.max
  have HX := Lib.hid hx; clear hx
  have HW := Lib.hid hw; clear hw
  have HT := Lib.hid hT; clear hT
  have HLN : Hid ((lawsD xs).length = n) := by show (lawsD xs).length = n; rw [lawsD, List.length_map]; exact HX.out.len
  go_enter Tryz.func9, Tryz.ntmps9
  go_wp2_with fail
  refine (light_c A n c xs w HX.out).mono ?_
  rintro e w1 ⟨⟨b1, rfl⟩, hB1⟩
  have HB1 := Lib.hid hB1; clear hB1
  cases b1
  · go_wp2_with fail
    refine (works_c _ (HT.out.below HB1.out (Nat.le_refl _))).mono ?_
    rintro e w2 ⟨rfl, hbw⟩
    go_wp2
    go_ret
    exact ⟨rfl, Below.trans HB1.out (hbw.mono (Below.size HB1.out))⟩
  go_wp2_with fail
  refine (short_c A' n' c' wss w1 (HW.out.below HB1.out (Nat.le_refl _))).mono ?_
  rintro e w2 ⟨⟨b2, rfl⟩, hB2'⟩
  have hB2 := HB1.out.trans (hB2'.mono HB1.out.size)
  have HB2 := Lib.hid hB2; clear hB2 hB2' HB1
  cases b2
  · go_wp2_with fail
    refine (works_c _ (HT.out.below HB2.out (Nat.le_refl _))).mono ?_
    rintro e w3 ⟨rfl, hbw⟩
    go_wp2
    go_ret
    exact ⟨rfl, Below.trans HB2.out (hbw.mono (Below.size HB2.out))⟩
  go_wp2_with fail
  refine (used_c A n c xs A' n' c' wss w2 (HX.out.below HB2.out (Nat.le_refl _)) (HW.out.below HB2.out (Nat.le_refl _)) (HT.out.below HB2.out (Nat.le_refl _))).mono ?_
  rintro e w3 ⟨A3, n3, c3, rfl, hi3, hB3'⟩
  have HI3 := Lib.hid hi3; clear hi3
  have hB3 := HB2.out.trans (hB3'.mono HB2.out.size)
  have HB3 := Lib.hid hB3; clear hB3 hB3' HB2
  go_wp2_with fail
  refine (pairs_c A n c xs A' n' c' wss w3 (HX.out.below HB3.out (Nat.le_refl _)) (HW.out.below HB3.out (Nat.le_refl _)) (HT.out.below HB3.out (Nat.le_refl _))).mono ?_
  rintro e w4 ⟨A4, n4, c4, ss, rfl, hss, hp4, hB4'⟩
  have HP4 := Lib.hid hp4; clear hp4
  have HI4 := Lib.hid (HI3.out.below hB4' (Nat.le_refl _)); clear HI3
  have hB4 := HB3.out.trans (hB4'.mono HB3.out.size)
  have HB4 := Lib.hid hB4; clear hB4 hB4' HB3
  rcases counts_cases (lawsD xs) wss with ⟨er, her, hu, hp⟩ | ⟨hl0, hl64, hw256, hu, hp, hall⟩
  · have h1 : (er != 0) = true := by simpa using her
    have h2 : (er != er) = false := by simp
    rw [hu] at HI4 ⊢
    rw [hp] at hss ⊢
    obtain rfl : ss = [] := by simpa using hss
    obtain rfl : n4 = 0 := HP4.out.1.2.symm
    obtain rfl : n3 = 0 := HI4.out.len.symm
    clear hss hu hp her HI4 HP4
    go_wp2_with fail
    refine (works_c _ (HT.out.below HB4.out (Nat.le_refl _))).mono ?_
    rintro e w5 ⟨rfl, hbw⟩
    go_wp2
    go_ret
    exact ⟨rfl, Below.trans HB4.out (hbw.mono (Below.size HB4.out))⟩
  rw [hu] at HI4 ⊢
  rw [hp] at hss ⊢
  rw [HLN.out] at hl64 HI4
  rw [HW.out.len] at hw256
  obtain rfl : n3 = n := by have h1 := HI4.out.len; simp only [bumps_len, List.length_replicate] at h1; exact h1.symm
  obtain rfl : n4 = n' := by have h1 := congrArg List.length hss; have h2 := HP4.out.1.2; have h3 := HW.out.len; simp only [List.length_map] at h1; omega
  have HALL := Lib.hid hall; clear hall
  have HL0 := Lib.hid hl0; clear hl0
  have HSS := Lib.hid hss; clear hss hu hp
  have hmk := fun w => run_make_row' (P := Tryz.prog) 55 3 (.int .i64 0) 8 Tryz.underlying55 int_info rfl .i64 .i64 n3 (by omega) (by omega) w
  go_wp2
  clear hmk
  rw [made_cnt]
  have kg : (w4.alloc (.cells (cntC (List.replicate n3 0)) 3)).heap[w4.heap.size]? = some (.cells (cntC (List.replicate n3 0)) 3 (0, 0)) := (by repeat (first | exact heap_new_at (by first | omega | (simp; done) | (simp; omega)) | rw [heap_drew] | rw [heap_old_at (by first | omega | (simp; done) | (simp; omega))]))
  have kB : Below w4.heap.size w4 (w4.alloc (.cells (cntC (List.replicate n3 0)) 3)) := (by repeat' (first | exact Below.refl _ _ | assumption | refine Below.alloc ?_ (by first | omega | (simp; done) | (simp; omega)) _ | refine Below.setCell ?_ (by first | omega | (simp; done) | (simp; omega)) _ | refine Below.drew ?_ | refine Below.drewN ?_ _ | refine Below.step (by assumption) (by first | omega | (simp; done) | (simp; omega)) ?_))
  generalize (w4.alloc (.cells (cntC (List.replicate n3 0)) 3)) = V0 at *
  obtain ⟨g, eg⟩ : ∃ g, g = w4.heap.size := ⟨_, rfl⟩
  have HBL : Hid (∀ W, Below w4.heap.size w4 W → Below w.heap.size w W) := fun W hW => HB4.out.trans (hW.mono HB4.out.size)
  rw [← eg] at kg ⊢
  have heg : w4.heap.size ≤ g := Nat.le_of_eq eg.symm
  clear eg
  have KG := Lib.hid kg; clear kg
  have KB := Lib.hid kB; clear kB
  go_loopw [10] (fun vi wr => ∃ (i : Nat) (cnt : List Int), vi = .int .i64 i ∧ i ≤ n4 ∧ Hid (cnt = bumps (lawsD xs) (wss.take i) (List.replicate n3 0)) ∧ Hid (∀ c ∈ cnt, 0 ≤ c ∧ c ≤ ((i * 64 : Nat) : Int)) ∧ Hid (wr.heap[g]? = some (.cells (cntC cnt) 3 (0, 0))) ∧ Below w4.heap.size w4 wr) (fun vi _ => n4 - (intOf vi).toNat)
  case atStart => exact ⟨0, List.replicate n3 0, rfl, Nat.zero_le _, rfl, fun c hc => by have := List.eq_of_mem_replicate hc; omega, KG.out, KB.out⟩
  case round =>
    obtain ⟨i, cnt, rfl, hi, hcnt, hbd, hg, hB⟩ := hrel
    have hBs := hB.size
    have hBB := HBL.out _ hB
    by_cases hlt : i < n4
    · obtain ⟨b, off, Aw, nw, cw, ws, rfl, hb, hcw, hwk, hws⟩ := (HW.out.below hBB (Nat.le_refl _)).at_ hlt
      have HWK := Lib.hid hwk; clear hwk
      have HWS := Lib.hid hws; clear hws
      have hgood := HALL.out ws (List.mem_of_getElem? HWK.out)
      obtain ⟨hst, hdr, hfl⟩ := word_good HL0.out hgood.1 hgood.2
      rw [HLN.out] at hst hfl
      obtain ⟨fs, hfs⟩ : ∃ fs, fs = (formsM (lawsD xs) ws).2 := ⟨_, rfl⟩
      rw [← hfs] at hst hfl
      have HFS := Lib.hid hfs; clear hfs
      have HFL := Lib.hid hfl; clear hfl
      have HST := Lib.hid hst; clear hst
      have hi1 : (i : Int) < (n4 : Int) := by omega
      obtain ⟨s, hs⟩ : ∃ s, ss[i]? = some s := ⟨ss[i]'(by rw [HP4.out.1.2]; exact hlt), List.getElem?_eq_getElem _⟩
      have hsd : s.data = (ws, (endM (lawsD xs) ws).2) := by
        have h1 := congrArg (fun l => l[i]?) HSS.out
        simp only [List.getElem?_map, hs, HWK.out, Option.map_some] at h1
        exact Option.some.inj h1
      obtain ⟨bp, op, hA4, hbp, hcp, hcq⟩ := HP4.out.at_ hs
      have hwpq := HP4.out.2 _ (List.mem_of_getElem? hs)
      clear hs
      obtain ⟨⟨Ap, np, cp, x⟩, ⟨Aq, nq, cq, y⟩⟩ := s
      have hsd1 : x = ws := congrArg Prod.fst hsd
      have hsd2 : y = (endM (lawsD xs) ws).2 := congrArg Prod.snd hsd
      subst hsd1
      rw [← hsd2] at hdr
      clear hsd hsd2 hgood
      have HDR := Lib.hid hdr; clear hdr
      obtain ⟨hwp, hwq⟩ := hwpq
      dsimp only at hwp hwq
      have HWP := Lib.hid (hwp.below hB (Nat.le_refl _)); clear hwp
      have HWQ := Lib.hid (hwq.below hB (Nat.le_refl _)); clear hwq
      subst hA4
      have hcp' : wr.cell? ⟨bp, op + i * 2, none⟩ = some (.slice Ap np cp) := (hB.cell (p := ⟨bp, op + i * 2, none⟩) hbp).trans hcp
      have hcq' : wr.cell? ⟨bp, op + i * 2 + 1, none⟩ = some (.slice Aq nq cq) := (hB.cell (p := ⟨bp, op + i * 2 + 1, none⟩) hbp).trans hcq
      have hbp' : bp < wr.heap.size := Nat.lt_of_lt_of_le hbp hBs
      clear hcp hcq hbp
      have HCP := Lib.hid hcp'; clear hcp'
      have HCQ := Lib.hid hcq'; clear hcq'
      have HCW := Lib.hid hcw
      go_wp2_with fail
      refine (steps_cF A n3 c xs Aw nw cw x wr (HX.out.below hBB (Nat.le_refl _)) HWS.out (HT.out.below hBB (Nat.le_refl _))).mono ?_
      rw [HST.out]
      rintro e w5 ⟨A5, n5, c5, sr, rfl, hsr, hst5, hb5, hf5⟩
      have HSR := Lib.hid hsr; clear hsr
      have HST5 := Lib.hid hst5; clear hst5
      have HF5 := Lib.hid hf5; clear hf5
      have hb5s := hb5.size
      have hB5 : Below w4.heap.size w4 w5 := hB.trans (hb5.mono hBs)
      have hBB5 := HBL.out _ hB5
      have hcw5 := (hb5.cell (p := ⟨b, off + i, none⟩) hb).trans HCW.out
      clear hcw
      go_wp2_with fail
      refine (derive_c A n3 c xs Aw nw cw x w5 (HX.out.below hBB5 (Nat.le_refl _)) (HWS.out.below hb5 (Nat.le_refl _)) (HT.out.below hBB5 (Nat.le_refl _))).mono ?_
      rw [HDR.out]
      rintro e w6 ⟨A6, n6, c6, rfl, hw6, hb6, _⟩
      have HW6 := Lib.hid hw6; clear hw6
      have hb6' : Below wr.heap.size wr w6 := hb5.trans (hb6.mono hb5s)
      have hb6s := hb6'.size
      have HST6 := Lib.hid (HST5.out.below hb6 (Nat.le_refl _)); clear HST5
      have HG6 : Hid (w6.heap[g]? = some (.cells (cntC cnt) 3 (0, 0))) := (hb6'.block g (lt_of_block hg.out)).trans hg.out
      have hcw6 := (hb6'.cell (p := ⟨b, off + i, none⟩) hb).trans HCW.out
      have hcp6 := (hb6'.cell (p := ⟨bp, op + i * 2, none⟩) hbp').trans HCP.out
      have hcq6 := (hb6'.cell (p := ⟨bp, op + i * 2 + 1, none⟩) hbp').trans HCQ.out
      have hbp6 : bp < w6.heap.size := Nat.lt_of_lt_of_le hbp' hb6s
      have hb6b : b < w6.heap.size := Nat.lt_of_lt_of_le hb hb6s
      have HWS6 := Lib.hid (HWS.out.below hb6' (Nat.le_refl _))
      have HWP6 := Lib.hid (HWP.out.below hb6' (Nat.le_refl _)); clear HWP
      have HWQ6 := Lib.hid (HWQ.out.below hb6' (Nat.le_refl _)); clear HWQ
      have hB6 : Below w4.heap.size w4 w6 := hB.trans (hb6'.mono hBs)
      have hgr := lt_of_block hg.out
      clear hcw5 hb5 hb6 hBB5 hb6' HCP HCQ
      go_wp2
      refine plain_region (fun W' => W'.cell? ⟨bp, op + i * 2, none⟩ = some (.slice Ap np cp) ∧ W'.cell? ⟨bp, op + i * 2 + 1, none⟩ = some (.slice Aq nq cq) ∧ W'.cell? ⟨b, off + i, none⟩ = some (.slice Aw nw cw)) (by kernel_rfl) ⟨hcp6, hcq6, hcw6⟩ (fun hHeld => ?_)
      (refine' anyT_take (i := 0) (v := _) rfl (by kernel_rfl) (by kernel_rfl) (by kernel_rfl) (by kernel_rfl) (fun _ _ _ h => h) (Or.inl ⟨by rfl, fun w' hSw => by (try dsimp only at hSw); go_split_ands; go_simp; (try with_reducible rfl)⟩) (by assumption) ?_; (try simp only [Act.put, List.getElem_toArray, List.getElem_cons_zero, List.getElem_cons_succ, List.setIfInBounds_toArray, List.set_cons_zero, List.set_cons_succ])); (refine' anyT_take (i := 1) (v := _) rfl (by kernel_rfl) (by kernel_rfl) (by kernel_rfl) (by kernel_rfl) (fun _ _ _ h => h) (Or.inl ⟨by rfl, fun w' hSw => by (try dsimp only at hSw); go_split_ands; go_simp; (try with_reducible rfl)⟩) (by assumption) ?_; (try simp only [Act.put, List.getElem_toArray, List.getElem_cons_zero, List.getElem_cons_succ, List.setIfInBounds_toArray, List.set_cons_zero, List.set_cons_succ])); (refine' anyT_take (i := 2) (v := _) rfl (by kernel_rfl) (by kernel_rfl) (by kernel_rfl) (by kernel_rfl) (fun _ _ _ h => h) (Or.inl ⟨by rfl, fun w' hSw => by (try dsimp only at hSw); go_split_ands; go_simp; (try with_reducible rfl)⟩) (by assumption) ?_; (try simp only [Act.put, List.getElem_toArray, List.getElem_cons_zero, List.getElem_cons_succ, List.setIfInBounds_toArray, List.set_cons_zero, List.set_cons_succ])); (refine' anyT_take (i := 3) (v := _) rfl (by kernel_rfl) (by kernel_rfl) (by kernel_rfl) (by kernel_rfl) (fun _ _ _ h => h) (Or.inl ⟨by rfl, fun w' hSw => by (try dsimp only at hSw); go_split_ands; go_simp; (try with_reducible rfl)⟩) (by assumption) ?_; (try simp only [Act.put, List.getElem_toArray, List.getElem_cons_zero, List.getElem_cons_succ, List.setIfInBounds_toArray, List.set_cons_zero, List.set_cons_succ])); (refine' anyT_take (i := 4) (v := _) rfl (by kernel_rfl) (by kernel_rfl) (by kernel_rfl) (by kernel_rfl) (fun _ _ _ h => h) (Or.inl ⟨by rfl, fun w' hSw => by (try dsimp only at hSw); go_split_ands; go_simp; (try with_reducible rfl)⟩) (by assumption) ?_; (try simp only [Act.put, List.getElem_toArray, List.getElem_cons_zero, List.getElem_cons_succ, List.setIfInBounds_toArray, List.set_cons_zero, List.set_cons_succ])); (refine' anyT_take (i := 5) (v := _) rfl (by kernel_rfl) (by kernel_rfl) (by kernel_rfl) (by kernel_rfl) (fun _ _ _ h => h) (Or.inl ⟨by rfl, fun w' hSw => by (try dsimp only at hSw); go_split_ands; go_simp; (try with_reducible rfl)⟩) (by assumption) ?_; (try simp only [Act.put, List.getElem_toArray, List.getElem_cons_zero, List.getElem_cons_succ, List.setIfInBounds_toArray, List.set_cons_zero, List.set_cons_succ])); (refine' anyT_take (i := 6) (v := _) rfl (by kernel_rfl) (by kernel_rfl) (by kernel_rfl) (by kernel_rfl) (fun _ _ _ h => h) (Or.inl ⟨by rfl, fun w' hSw => by (try dsimp only at hSw); go_split_ands; go_simp; (try with_reducible rfl)⟩) (by assumption) ?_; (try simp only [Act.put, List.getElem_toArray, List.getElem_cons_zero, List.getElem_cons_succ, List.setIfInBounds_toArray, List.set_cons_zero, List.set_cons_succ])); (refine' anyT_take (i := 7) (v := _) rfl (by kernel_rfl) (by kernel_rfl) (by kernel_rfl) (by kernel_rfl) (fun _ _ _ h => h) (Or.inl ⟨by rfl, fun w' hSw => by (try dsimp only at hSw); go_split_ands; go_simp; (try with_reducible rfl)⟩) (by assumption) ?_; (try simp only [Act.put, List.getElem_toArray, List.getElem_cons_zero, List.getElem_cons_succ, List.setIfInBounds_toArray, List.set_cons_zero, List.set_cons_succ])); (refine' anyT_take (i := 8) (v := _) rfl (by kernel_rfl) (by kernel_rfl) (by kernel_rfl) (by kernel_rfl) (fun _ _ _ h => h) (Or.inl ⟨by rfl, fun w' hSw => by (try dsimp only at hSw); go_split_ands; go_simp; (try with_reducible rfl)⟩) (by assumption) ?_; (try simp only [Act.put, List.getElem_toArray, List.getElem_cons_zero, List.getElem_cons_succ, List.setIfInBounds_toArray, List.set_cons_zero, List.set_cons_succ])); (refine' anyT_take (i := 9) (v := _) rfl (by kernel_rfl) (by kernel_rfl) (by kernel_rfl) (by kernel_rfl) (fun _ _ _ h => h) (Or.inl ⟨by rfl, fun w' hSw => by (try dsimp only at hSw); go_split_ands; go_simp; (try with_reducible rfl)⟩) (by assumption) ?_; (try simp only [Act.put, List.getElem_toArray, List.getElem_cons_zero, List.getElem_cons_succ, List.setIfInBounds_toArray, List.set_cons_zero, List.set_cons_succ])); (refine' anyT_take (i := 10) (v := _) rfl (by kernel_rfl) (by kernel_rfl) (by kernel_rfl) (by kernel_rfl) (fun _ _ _ h => h) (Or.inl ⟨by rfl, fun w' hSw => by (try dsimp only at hSw); go_split_ands; go_simp; (try with_reducible rfl)⟩) (by assumption) ?_; (try simp only [Act.put, List.getElem_toArray, List.getElem_cons_zero, List.getElem_cons_succ, List.setIfInBounds_toArray, List.set_cons_zero, List.set_cons_succ])); (refine' anyT_take (i := 11) (v := _) rfl (by kernel_rfl) (by kernel_rfl) (by kernel_rfl) (by kernel_rfl) (fun _ _ _ h => h) (Or.inl ⟨by rfl, fun w' hSw => by (try dsimp only at hSw); go_split_ands; go_simp; (try with_reducible rfl)⟩) (by assumption) ?_; (try simp only [Act.put, List.getElem_toArray, List.getElem_cons_zero, List.getElem_cons_succ, List.setIfInBounds_toArray, List.set_cons_zero, List.set_cons_succ])); (refine' anyT_take (i := 12) (v := _) rfl (by kernel_rfl) (by kernel_rfl) (by kernel_rfl) (by kernel_rfl) (fun _ _ _ h => h) (Or.inl ⟨by rfl, fun w' hSw => by (try dsimp only at hSw); go_split_ands; go_simp; (try with_reducible rfl)⟩) (by assumption) ?_; (try simp only [Act.put, List.getElem_toArray, List.getElem_cons_zero, List.getElem_cons_succ, List.setIfInBounds_toArray, List.set_cons_zero, List.set_cons_succ])); (refine' anyT_take (i := 13) (v := _) rfl (by kernel_rfl) (by kernel_rfl) (by kernel_rfl) (by kernel_rfl) (fun _ _ _ h => h) (Or.inl ⟨by rfl, fun w' hSw => by (try dsimp only at hSw); go_split_ands; go_simp; (try with_reducible rfl)⟩) (by assumption) ?_; (try simp only [Act.put, List.getElem_toArray, List.getElem_cons_zero, List.getElem_cons_succ, List.setIfInBounds_toArray, List.set_cons_zero, List.set_cons_succ])); (refine' anyT_take (i := 14) (v := _) rfl (by kernel_rfl) (by kernel_rfl) (by kernel_rfl) (by kernel_rfl) (fun _ _ _ h => h) (Or.inl ⟨by rfl, fun w' hSw => by (try dsimp only at hSw); go_split_ands; go_simp; (try with_reducible rfl)⟩) (by assumption) ?_; (try simp only [Act.put, List.getElem_toArray, List.getElem_cons_zero, List.getElem_cons_succ, List.setIfInBounds_toArray, List.set_cons_zero, List.set_cons_succ])); (refine' anyT_take (i := 15) (v := _) rfl (by kernel_rfl) (by kernel_rfl) (by kernel_rfl) (by kernel_rfl) (fun _ _ _ h => h) (Or.inl ⟨by rfl, fun w' hSw => by (try dsimp only at hSw); go_split_ands; go_simp; (try with_reducible rfl)⟩) (by assumption) ?_; (try simp only [Act.put, List.getElem_toArray, List.getElem_cons_zero, List.getElem_cons_succ, List.setIfInBounds_toArray, List.set_cons_zero, List.set_cons_succ]))
      (refine anyT_step (i := 16) (by kernel_rfl) rfl (fun K' hK' => ?_); simp only [List.getElem_toArray, List.getElem_cons_zero, List.getElem_cons_succ]; go_simp)
      refine (wEqual_c Ap Aw np nw cp cw x x _ (HWP6.out.below (B := w6.heap.size) ((Below.refl w6.heap.size w6).drew) (Nat.le_refl _)) (HWS6.out.below (B := w6.heap.size) ((Below.refl w6.heap.size w6).drew) (Nat.le_refl _))).mono ?_
      rintro e w7 ⟨rfl, hb7'⟩
      have hb7 : Below w6.heap.size w6 w7 := (Below.refl w6.heap.size w6).drew.trans hb7'
      have hS7 : w7.cell? ⟨bp, op + i * 2, none⟩ = some (.slice Ap np cp) ∧ w7.cell? ⟨bp, op + i * 2 + 1, none⟩ = some (.slice Aq nq cq) ∧ w7.cell? ⟨b, off + i, none⟩ = some (.slice Aw nw cw) := ⟨(hb7.cell (p := ⟨bp, op + i * 2, none⟩) hbp6).trans hcp6, (hb7.cell (p := ⟨bp, op + i * 2 + 1, none⟩) hbp6).trans hcq6, (hb7.cell (p := ⟨b, off + i, none⟩) hb6b).trans hcw6⟩
      rw [show decide (x = x) = true from decide_eq_true rfl]
      refine hK' _ _ ⟨.inr hS7, fun _ => ?_⟩
      clear hK' K' hb7' hHeld hcp6 hcq6 hcw6
      have hb7s := hb7.size
      have HWQ7 := Lib.hid (HWQ6.out.below hb7 (Nat.le_refl _)); clear HWQ6 HWP6 HWS6
      have HW7 := Lib.hid (HW6.out.below hb7 (Nat.le_refl _)); clear HW6
      have HST7 := Lib.hid (HST6.out.below hb7 (Nat.le_refl _)); clear HST6
      have HG7 : Hid (w7.heap[g]? = some (.cells (cntC cnt) 3 (0, 0))) := (hb7.block g (lt_of_block HG6.out)).trans HG6.out
      have hB7 : Below w4.heap.size w4 w7 := hB6.trans (hb7.mono hB6.size)
      have hbp7 : bp < w7.heap.size := Nat.lt_of_lt_of_le hbp6 hb7s
      have hb7b : b < w7.heap.size := Nat.lt_of_lt_of_le hb6b hb7s
      clear HG6 hb7 hB6 hbp6 hb6b
      (try simp only [Act.put, List.getElem_toArray, List.getElem_cons_zero, List.getElem_cons_succ, List.setIfInBounds_toArray, List.set_cons_zero, List.set_cons_succ])
      (refine' anyT_take (i := 17) (v := _) rfl (by kernel_rfl) (by kernel_rfl) (by kernel_rfl) (by kernel_rfl) (fun _ _ _ h => h) (Or.inl ⟨by rfl, fun w' hSw => by (try dsimp only at hSw); go_split_ands; go_simp; (try with_reducible rfl)⟩) (by assumption) ?_; (try simp only [Act.put, List.getElem_toArray, List.getElem_cons_zero, List.getElem_cons_succ, List.setIfInBounds_toArray, List.set_cons_zero, List.set_cons_succ])); (refine' anyT_take (i := 18) (v := _) rfl (by kernel_rfl) (by kernel_rfl) (by kernel_rfl) (by kernel_rfl) (fun _ _ _ h => h) (Or.inl ⟨by rfl, fun w' hSw => by (try dsimp only at hSw); go_split_ands; go_simp; (try with_reducible rfl)⟩) (by assumption) ?_; (try simp only [Act.put, List.getElem_toArray, List.getElem_cons_zero, List.getElem_cons_succ, List.setIfInBounds_toArray, List.set_cons_zero, List.set_cons_succ])); (refine' anyT_take (i := 19) (v := _) rfl (by kernel_rfl) (by kernel_rfl) (by kernel_rfl) (by kernel_rfl) (fun _ _ _ h => h) (Or.inl ⟨by rfl, fun w' hSw => by (try dsimp only at hSw); go_split_ands; go_simp; (try with_reducible rfl)⟩) (by assumption) ?_; (try simp only [Act.put, List.getElem_toArray, List.getElem_cons_zero, List.getElem_cons_succ, List.setIfInBounds_toArray, List.set_cons_zero, List.set_cons_succ])); (refine' anyT_take (i := 20) (v := _) rfl (by kernel_rfl) (by kernel_rfl) (by kernel_rfl) (by kernel_rfl) (fun _ _ _ h => h) (Or.inl ⟨by rfl, fun w' hSw => by (try dsimp only at hSw); go_split_ands; go_simp; (try with_reducible rfl)⟩) (by assumption) ?_; (try simp only [Act.put, List.getElem_toArray, List.getElem_cons_zero, List.getElem_cons_succ, List.setIfInBounds_toArray, List.set_cons_zero, List.set_cons_succ])); (refine' anyT_take (i := 21) (v := _) rfl (by kernel_rfl) (by kernel_rfl) (by kernel_rfl) (by kernel_rfl) (fun _ _ _ h => h) (Or.inl ⟨by rfl, fun w' hSw => by (try dsimp only at hSw); go_split_ands; go_simp; (try with_reducible rfl)⟩) (by assumption) ?_; (try simp only [Act.put, List.getElem_toArray, List.getElem_cons_zero, List.getElem_cons_succ, List.setIfInBounds_toArray, List.set_cons_zero, List.set_cons_succ])); (refine' anyT_take (i := 22) (v := _) rfl (by kernel_rfl) (by kernel_rfl) (by kernel_rfl) (by kernel_rfl) (fun _ _ _ h => h) (Or.inl ⟨by rfl, fun w' hSw => by (try dsimp only at hSw); go_split_ands; go_simp; (try with_reducible rfl)⟩) (by assumption) ?_; (try simp only [Act.put, List.getElem_toArray, List.getElem_cons_zero, List.getElem_cons_succ, List.setIfInBounds_toArray, List.set_cons_zero, List.set_cons_succ])); (refine' anyT_take (i := 23) (v := _) rfl (by kernel_rfl) (by kernel_rfl) (by kernel_rfl) (by kernel_rfl) (fun _ _ _ h => h) (Or.inl ⟨by rfl, fun w' hSw => by (try dsimp only at hSw); go_split_ands; go_simp; (try with_reducible rfl)⟩) (by assumption) ?_; (try simp only [Act.put, List.getElem_toArray, List.getElem_cons_zero, List.getElem_cons_succ, List.setIfInBounds_toArray, List.set_cons_zero, List.set_cons_succ])); (refine' anyT_take (i := 24) (v := _) rfl (by kernel_rfl) (by kernel_rfl) (by kernel_rfl) (by kernel_rfl) (fun _ _ _ h => h) (Or.inl ⟨by rfl, fun w' hSw => by (try dsimp only at hSw); go_split_ands; go_simp; (try with_reducible rfl)⟩) (by assumption) ?_; (try simp only [Act.put, List.getElem_toArray, List.getElem_cons_zero, List.getElem_cons_succ, List.setIfInBounds_toArray, List.set_cons_zero, List.set_cons_succ])); (refine' anyT_take (i := 25) (v := _) rfl (by kernel_rfl) (by kernel_rfl) (by kernel_rfl) (by kernel_rfl) (fun _ _ _ h => h) (Or.inl ⟨by rfl, fun w' hSw => by (try dsimp only at hSw); go_split_ands; go_simp; (try with_reducible rfl)⟩) (by assumption) ?_; (try simp only [Act.put, List.getElem_toArray, List.getElem_cons_zero, List.getElem_cons_succ, List.setIfInBounds_toArray, List.set_cons_zero, List.set_cons_succ]))
      (refine anyT_step (i := 26) (by kernel_rfl) rfl (fun K' hK' => ?_); simp only [List.getElem_toArray, List.getElem_cons_zero, List.getElem_cons_succ]; go_simp)
      refine (wEqual_c Aq A6 nq n6 cq c6 y y w7 HWQ7.out HW7.out).mono ?_
      rintro e w8 ⟨rfl, hb8⟩
      rw [show decide (y = y) = true from decide_eq_true rfl]
      have hS8 : w8.cell? ⟨bp, op + i * 2, none⟩ = some (.slice Ap np cp) ∧ w8.cell? ⟨bp, op + i * 2 + 1, none⟩ = some (.slice Aq nq cq) ∧ w8.cell? ⟨b, off + i, none⟩ = some (.slice Aw nw cw) := ⟨(hb8.cell (p := ⟨bp, op + i * 2, none⟩) hbp7).trans hS7.1, (hb8.cell (p := ⟨bp, op + i * 2 + 1, none⟩) hbp7).trans hS7.2.1, (hb8.cell (p := ⟨b, off + i, none⟩) hb7b).trans hS7.2.2⟩
      refine hK' _ _ ⟨.inr hS8, fun _ => ?_⟩
      clear hK' K' hS7
      have HST8 := Lib.hid (HST7.out.below hb8 (Nat.le_refl _)); clear HST7
      have HG8 : Hid (w8.heap[g]? = some (.cells (cntC cnt) 3 (0, 0))) := (hb8.block g (lt_of_block HG7.out)).trans HG7.out
      have hB8 : Below w4.heap.size w4 w8 := hB7.trans (hb8.mono hB7.size)
      clear HG7 hb8 hB7 HW7 HWQ7
      (try simp only [Act.put, List.getElem_toArray, List.getElem_cons_zero, List.getElem_cons_succ, List.setIfInBounds_toArray, List.set_cons_zero, List.set_cons_succ])
      (refine' anyT_take (i := 27) (v := _) rfl (by kernel_rfl) (by kernel_rfl) (by kernel_rfl) (by kernel_rfl) (fun _ _ _ h => h) (Or.inl ⟨by rfl, fun w' hSw => by (try dsimp only at hSw); go_split_ands; go_simp; (try with_reducible rfl)⟩) (by assumption) ?_; (try simp only [Act.put, List.getElem_toArray, List.getElem_cons_zero, List.getElem_cons_succ, List.setIfInBounds_toArray, List.set_cons_zero, List.set_cons_succ]))
      (refine anyT_step (i := 28) (by kernel_rfl) rfl (fun K' hK' => ?_); simp only [List.getElem_toArray, List.getElem_cons_zero, List.getElem_cons_succ]; go_simp)
      refine hK' _ _ ⟨.inl (by kernel_rfl), fun _ => anyT_done (by kernel_rfl) ?_ _⟩
      clear hK' K' hS8
      have hn5 : sr.length = n5 := HST8.out.1.2
      have hsl : sr.length ≤ n3 := by have h1 := stepsL_len fs n3; rw [← HSR.out, List.length_map] at h1; exact h1
      have hn5' : n5 ≤ n3 := by omega
      obtain ⟨cl, hcl⟩ : ∃ cl, cnt.length = cl := ⟨_, rfl⟩
      have HCL : Hid (cnt.length = n3) := by show cnt.length = n3; rw [hcnt.out, bumps_len, List.length_replicate]
      clear hcl cl
      have HN5 := Lib.hid hn5; clear hn5 hsl
      obtain ⟨wo, hwo⟩ : ∃ wo, wo = wr := ⟨_, rfl⟩
      subst hwo
      go_wp2
      go_loopw [15] (fun vk wr => ∃ (k : Nat) (cn : List Int), vk = .int .i64 k ∧ k ≤ n5 ∧ Hid (cn = incs cnt ((stepsL fs n3).take k)) ∧ Hid (∀ c ∈ cn, 0 ≤ c ∧ c ≤ ((i * 64 + k : Nat) : Int)) ∧ Hid (wr.heap[g]? = some (.cells (cntC cn) 3 (0, 0))) ∧ Hid (Keep (fun b => b = g) w8 wr)) (fun vk _ => n5 - (intOf vk).toNat)
      case atStart => exact ⟨0, cnt, rfl, Nat.zero_le _, rfl, hbd.out, HG8.out, Keep.refl _ _⟩
      case round =>
        obtain ⟨k, cn, rfl, hk, hcn, hcb, hgk, hK⟩ := hrel
        by_cases hkl : k < n5
        · obtain ⟨s, hs⟩ : ∃ s, sr[k]? = some s := ⟨sr[k]'(by rw [HN5.out]; exact hkl), List.getElem?_eq_getElem _⟩
          have hdat : (stepsL fs n3)[k]? = some s.data := by rw [← HSR.out, List.getElem?_map, hs]; rfl
          obtain ⟨bs, os, hA5, hbs, hcs0⟩ := HST8.out.at_' hs
          have hsk : s.k < n3 := steps_lt hdat
          have hbsg : bs ≠ g := by
            have h1 := HF5.out _ hA5
            have h1' : wo.heap.size ≤ bs := h1
            omega
          have hcs : wr.cell? ⟨bs, os + k * 3, none⟩ = some (.int .i64 s.k) := (World.cell?_of_block (hK.out.block bs hbs hbsg)).trans hcs0
          have HSN : Hid (incs cnt ((stepsL fs n3).take (k + 1)) = incAt cn s.k) := by
            show _ = _
            rw [take_snoc' _ k _ hdat, incs_snoc, hcn.out]; rfl
          clear hs hdat hcs0 hbs
          obtain ⟨sk, p, q⟩ := s
          have hsk' : sk < n3 := hsk
          have hcs' : wr.cell? ⟨bs, os + k * 3, none⟩ = some (.int .i64 sk) := hcs
          have HSN' : Hid (incs cnt ((stepsL fs n3).take (k + 1)) = incAt cn sk) := HSN
          have hlcn : cn.length = n3 := by rw [hcn.out, incs_len]; exact HCL.out
          obtain ⟨v, hv⟩ : ∃ v, cn[sk]? = some v := ⟨cn[sk]'(by rw [hlcn]; exact hsk'), List.getElem?_eq_getElem _⟩
          have hvb := hcb.out v (List.mem_of_getElem? hv)
          have hcv := cntC_get hgk.out hv
          have hfv := frozen_of_row wr g sk _ _ hgk.out
          have HINC : Hid (incAt cn sk = cn.set sk (v + 1)) := by show _ = _; unfold incAt; rw [getD_of hv]
          clear hsk hcs HSN hv hlcn
          subst hA5
          have hk1 : (k : Int) < (n5 : Int) := by omega
          have hs1 : (sk : Int) < (n3 : Int) := by omega
          have hv0 : 0 ≤ v := hvb.1
          have hv1 : v ≤ 20000 := by have := hvb.2; omega
          clear hvb
          go_wp2
          have t1 : (wr.setCell ⟨g, sk, none⟩ (.int .i64 (v + 1))).heap[g]? = some (.cells (cntC (incAt cn sk)) 3 (0, 0)) := by
            rw [HINC.out, ← cntC_set]; exact heap_setCell_same hgk.out
          have tK := hK.out.setCell (p := ⟨g, sk, none⟩) rfl (.int .i64 (v + 1))
          go_roundw
          case rel => exact ⟨k + 1, incAt cn sk, by go_num, by omega, HSN'.out.symm, fun c hc => by have := incAt_bound hcb.out c hc; omega, t1, tK⟩
          case measure => simp [intOf]; omega
        · obtain rfl : k = n5 := by omega
          have hcn' : cn = bumps (lawsD xs) (wss.take (i + 1)) (List.replicate n3 0) := by
            have h1 := hcn.out
            rw [List.take_of_length_le (by rw [← HSR.out, List.length_map, HN5.out]; exact Nat.le_refl _), incs_steps n3 (by rw [HFL.out]; omega) (by rw [HCL.out]; exact Nat.le_refl _)] at h1
            rw [h1, take_snoc' wss i _ HWK.out, bumps_snoc, ← hcnt.out, ← HFS.out, HFL.out]
          have HCN := Lib.hid hcn'; clear hcn'
          have hB9 : Below w4.heap.size w4 wr := hB8.trans (hK.out.to_below (fun b hb => by have hb' : b = g := hb; omega) hB8.size)
          go_wp2
          go_roundw
          case rel => exact ⟨i + 1, cn, by go_num, by omega, HCN.out, fun c hc => by have := hcb.out c hc; omega, hgk.out, hB9⟩
          case measure => simp [intOf]; omega
    · obtain rfl : i = n4 := by omega
      have hfin : cnt = bumps (lawsD xs) wss (List.replicate n3 0) := by have h1 := hcnt.out; rwa [List.take_of_length_le (by rw [HW.out.len]; exact Nat.le_refl _)] at h1
      have HFIN := Lib.hid hfin; clear hfin
      go_wp2_with fail
      refine (numbers_c A3 (some ⟨g, 0, none⟩) n3 n3 c3 n3 _ cnt wr (HI4.out.below hB (Nat.le_refl _)) (ints_row hg.out (by rw [hcnt.out, bumps_len, List.length_replicate]) (by unfold maxLen; omega))).mono ?_
      rintro e w9 ⟨rfl, hb9⟩
      rw [show decide (bumps (lawsD xs) wss (List.replicate n3 0) = cnt) = true from decide_eq_true HFIN.out.symm]
      have HB9 := Lib.hid (hBB.trans (hb9.mono hBB.size))
      clear hb9
      go_wp2_with fail
      refine (works_c _ (HT.out.below HB9.out (Nat.le_refl _))).mono ?_
      rintro e w10 ⟨rfl, hbw⟩
      go_wp2
      go_ret
      exact ⟨rfl, Below.trans HB9.out (hbw.mono (Below.size HB9.out))⟩
end Go.Proofs.YtfgilinjaldhhaaGreatDoor

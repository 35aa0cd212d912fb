/-
  interplay: outcomes, differ, check.
-/
import Derived.Test.YtcpcojgmmpnkoaaGreatDoorG42
import Derived.Test.YtcpcojgmmpnkoaaGreatDoorG38
import Derived.Test.YtcpcojgmmpnkoaaGreatDoorG14
import Derived.Test.YtcpcojgmmpnkoaaGreatDoorG13
set_option linter.unusedVariables false
set_option linter.unusedSimpArgs false
set_option maxRecDepth 100000
set_option maxHeartbeats 4000000
namespace Go.Proofs.YtcpcojgmmpnkoaaGreatDoor
open Go.RowKit Go.Shelf
theorem outcomes_c (A : Option Addr) (n c : Nat) (xs : List LawR) (A' : Option Addr) (n' c' : Nat) (wss : List (List Snd)) (w : World) (hx : IsLaws w A n c xs) (hw : IsWords w A' n' c' wss) (hT : TabOK w) (hn : n' ≤ 4000) :
  Calls Tryz.prog 151 #[.slice A n c, .slice A' n' c'] w (RetWsE w (outsM (lawsD xs) wss)) := by
 have hmx := hx.max
 have hmw := hw.max
 have HX := hI hx; clear hx
 have HW := hI hw; clear hw
 have HT := hI hT; clear hT
 go_enter Tryz.func151, Tryz.ntmps151
 go_wp2_with fail
 go_loopw [6, 13] (fun v i wr => ∃ (k : Nat) (ps : List Part), i = .int .i64 k ∧ k ≤ n' ∧ ps.length = k ∧ Hid (WordsW wr w.heap.size v ps) ∧ Hid (outsM (lawsD xs) wss = outsGo (lawsD xs) (wss.drop k) (ps.map Part.word)) ∧ Below w.heap.size w wr) (fun _ i _ => n' - (intOf i).toNat)
 case atStart => exact ⟨0, [], rfl, Nat.zero_le _, rfl, WordsW.nil w, rfl, Below.refl _ _⟩
 case round =>
  obtain ⟨k, ps, rfl, hk, hsl, hok, hgo, hB⟩ := hrel
  have hBs := hB.size
  obtain ⟨A7, c7, rfl⟩ := own_form hok.out.own
  by_cases hlt : k < n'
  ·obtain ⟨b, off, A1, n1, c1, x, rfl, hbl, hcell, hxk, hwx⟩ := (HW.out.below hB rr).at_ hlt
   have hlt' : (k : Int) < (n' : Int) := by omega
   have HXK := hI hxk
   have HWX := hI hwx; clear hwx hxk
   go_wp2_with fail
   refine (derive_c A n c xs A1 n1 c1 x wr (HX.out.below hB rr) HWX.out (HT.out.below hB rr)).mono ?_
   obtain ⟨fa, hfa⟩ : ∃ fa, fa = deriveM (lawsD xs) x := ⟨_, rfl⟩
   rw [← hfa]
   rintro e w3 ⟨A3, n3, c3, rfl, hw3, hb3, hf3⟩
   have hB3 := hB.trans (hb3.mono hBs)
   by_cases h4 : fa.1 = 0
   ·have h5 : (fa.1 != 0) = false := by simpa using h4
    have HOK3 := hI (hok.out.below hb3)
    have HQ3 := hI (hok.out.fresh (q := (A3, n3, c3, fa.2)) hw3 hf3)
    have HGN : Hid (outsM (lawsD xs) wss = outsGo (lawsD xs) (wss.drop (k + 1)) (ps.map Part.word ++ [fa.2])) := by
     show _ = _
     rw [hgo.out, outsGo_step HXK.out (by rw [← hfa]; exact h4), hfa]
    clear hcell hok hb3 hw3 hf3 hfa h4
    have hba : Below w3.heap.size w3 (w3.alloc (.cells #[.slice A3 n3 c3] 32)) := (Below.refl _ _).alloc rr _
    have hok5 := HOK3.out.below hba
    have hown5 := hok5.own
    rw [hsl] at hown5
    have HOWN5 := hI hown5
    have HBA := hI hba
    go_wp2_with (at_builtin; refine append_wd rfl (.tmp 26) (.tmp 28) rfl w.heap.size (.slice A7 k c7) k (ps.map Part.val) rfl HOWN5.out ⟨w3.heap.size, 0, none⟩ 1 (.slice A3 n3 c3) rfl (cell_one_new _ _ _) rfl (by omega) ?hz2 ?hc2)
    case hz2 => have := HOK3.out.sz; simp; omega
    case hc2 =>
     intro v6 w6 hown6 hg6 hat6
     have HAT6 : v6.ownBlock = (Value.slice A7 ps.length c7).ownBlock ∨ v6.ownBlock = some (w3.alloc (.cells #[.slice A3 n3 c3] 32)).heap.size := by rw [hsl]; exact hat6.imp id (fun e => e.trans (by simp))
     have h6 := (HOK3.out.below HBA.out).push (q := (A3, n3, c3, fa.2)) (HQ3.out.below HBA.out) (by rw [hsl]; exact hown6) (by rw [hsl]; exact hg6) HAT6
     have H6 := hI h6
     have hB6 : Below w.heap.size w w6 := (hB3.trans (HBA.out.mono hB3.size)).grown hg6 (by have := hB3.size; simp; omega) (fun j hj => by have := (HOK3.out.own.lt j (by rw [hsl]; exact hj)).1; omega)
     clear h6 hown6 hg6 hat6 HAT6 HOK3 HQ3 hown5 hok5 hba HOWN5 HBA
     go_wp2
     go_roundw
     case rel => exact ⟨k + 1, _, by go_num, by omega, (by rw [List.length_append, hsl]; rfl), H6, (by show _ = _; rw [List.map_append]; exact HGN.out), hB6⟩
     case measure => simp [intOf] <;> omega
   ·have h5 : (fa.1 != 0) = true := by simpa using h4
    have HM' : Hid (outsM (lawsD xs) wss = (fa.1, [])) := by show _ = _; rw [hgo.out, outsGo_fail HXK.out (by rw [← hfa]; exact h4), ← hfa]
    clear h4 hfa hcell hw3 hf3
    go_wp2
    go_ret2
    exact ⟨none, 0, 0, by rw [HM'.out]; rfl, by rw [HM'.out]; exact IsWords.nil _, hB3⟩
  ·obtain rfl : k = n' := by omega
   have hfin : outsM (lawsD xs) wss = (0, ps.map Part.word) := by rw [hgo.out, List.drop_eq_nil_of_le (by rw [HW.out.len]; exact rr)]; rfl
   have HFIN := hI hfin; clear hfin
   go_wp2
   go_ret2
   exact ⟨A7, _, c7, by rw [HFIN.out]; rfl, by rw [HFIN.out]; exact hok.out.words rfl, hB⟩
theorem diffI_at {x y : List (List Snd)} {k : Nat} (hk : k < x.length) (h1 : ∀ i, i < k → x.getD i [] = y.getD i []) (h2 : x.getD k [] ≠ y.getD k []) : diffI x y = k := by
 have : diffN x y = some k := by
  unfold diffN
  rw [List.find?_range_eq_some]
  exact ⟨by simpa using h2, List.mem_range.2 hk, fun i hi => by simpa using h1 i hi⟩
 unfold diffI; rw [this]
theorem diffI_no {x y : List (List Snd)} (h1 : ∀ i, i < x.length → x.getD i [] = y.getD i []) : diffI x y = -1 := by
 have : diffN x y = none := by
  unfold diffN
  rw [List.find?_eq_none]
  intro i hi
  simpa using h1 i (List.mem_range.1 hi)
 unfold diffI; rw [this]
theorem differ_c (A A' : Option Addr) (n n' c c' : Nat) (xs ys : List (List Snd)) (w : World) (hx : IsWords w A n c xs) (hy : IsWords w A' n' c' ys) (hl : n ≤ n') :
  Calls Tryz.prog 153 #[.slice A n c, .slice A' n' c'] w fun e w' => e = .returned (.int .i64 (diffI xs ys)) ∧ Below w.heap.size w w' := by
 have hm := hx.max
 have hm' := hy.max
 have HX := hI hx; clear hx
 have HY := hI hy; clear hy
 go_enter Tryz.func153, Tryz.ntmps153
 go_wp2
 go_loopw [8] (fun i wr => ∃ k : Nat, k ≤ n ∧ i = .int .i64 k ∧ Hid (∀ i, i < k → xs.getD i [] = ys.getD i []) ∧ Below w.heap.size w wr) (fun i _ => n - (intOf i).toNat)
 case atStart => exact ⟨0, Nat.zero_le _, rfl, (fun i h => by omega), bel⟩
 case round =>
  obtain ⟨k, hk, rfl, HA, hB⟩ := hrel
  have hBs := hB.size
  by_cases hlt : k < n
  ·obtain ⟨b, off, A5, n5, c5, x5, rfl, hb5, hc5, hx5, hw5⟩ := (HX.out.below hB rr).at_ hlt
   obtain ⟨b', off', A6, n6, c6, x6, rfl, hb6, hc6, hx6, hw6⟩ := (HY.out.below hB rr).at_ (show k < n' by omega)
   have HK : Hid (xs.getD k [] = x5) := getD_of hx5
   have HK' : Hid (ys.getD k [] = x6) := getD_of hx6
   have HW5 := hI hw5; clear hw5 hx5
   have HW6 := hI hw6; clear hw6 hx6
   have hkn : (k : Int) < (n : Int) := by omega
   have hkn' : (k : Int) < (n' : Int) := by omega
   go_wp2
   refine plain_region (fun W' => W'.cell? ⟨b, off + k, none⟩ = some (.slice A5 n5 c5) ∧ W'.cell? ⟨b', off' + k, none⟩ = some (.slice A6 n6 c6)) (by kernel_rfl) ⟨hc5, hc6⟩ (fun hHeld => ?_)
   (refine' anyT_tk 0 rfl ?_; (try simp only [Act.put, nA, nB, nC, nD, nE, nF])); (refine' anyT_tk 1 rfl ?_; (try simp only [Act.put, nA, nB, nC, nD, nE, nF])); (refine' anyT_tk 2 rfl ?_; (try simp only [Act.put, nA, nB, nC, nD, nE, nF])); (refine' anyT_tk 3 rfl ?_; (try simp only [Act.put, nA, nB, nC, nD, nE, nF])); (refine' anyT_tk 4 rfl ?_; (try simp only [Act.put, nA, nB, nC, nD, nE, nF])); (refine' anyT_tk 5 rfl ?_; (try simp only [Act.put, nA, nB, nC, nD, nE, nF])); (refine' anyT_tk 6 rfl ?_; (try simp only [Act.put, nA, nB, nC, nD, nE, nF])); (refine' anyT_tk 7 rfl ?_; (try simp only [Act.put, nA, nB, nC, nD, nE, nF]))
   clear hc5 hc6
   (refine anyT_step (i := 8) (by kernel_rfl) rfl (fun K' hK' => ?_); simp only [List.getElem_toArray, List.getElem_cons_zero, List.getElem_cons_succ]; go_simp)
   refine (wEqual_c A5 A6 n5 n6 c5 c6 x5 x6 _ (HW5.out.below (B := wr.heap.size) ((Below.refl wr.heap.size wr).drew) rr) (HW6.out.below (B := wr.heap.size) ((Below.refl wr.heap.size wr).drew) rr)).mono ?_
   rintro e w5 ⟨rfl, hb5'⟩
   have hbb : Below wr.heap.size wr w5 := (Below.refl wr.heap.size wr).drew.trans hb5'
   obtain ⟨q1, q2⟩ := hHeld
   refine hK' _ _ ⟨.inr ⟨(hbb.cell (p := ⟨b, off + k, none⟩) (by assumption)).trans q1, (hbb.cell (p := ⟨b', off' + k, none⟩) (by assumption)).trans q2⟩, fun _ => ?_⟩
   clear hK' K' hb5' q1 q2
   have hB5 : Below w.heap.size w w5 := hB.trans (hbb.mono hBs)
   clear hbb
   (try simp only [Act.put, nA, nB, nC, nD, nE, nF])
   (refine anyT_step (i := 9) (by kernel_rfl) rfl (fun K' hK' => ?_); simp only [List.getElem_toArray, List.getElem_cons_zero, List.getElem_cons_succ]; go_simp)
   refine hK' _ _ ⟨.inl (by kernel_rfl), fun _ => anyT_done (by kernel_rfl) ?_ _⟩
   clear hK' K'
   obtain ⟨d, hd⟩ : ∃ d, d = decide (x5 = x6) := ⟨_, rfl⟩
   rw [← hd]
   have HDD := hI hd; clear hd
   cases d with
   | true =>
    have HA' : Hid (∀ i, i < k + 1 → xs.getD i [] = ys.getD i []) := fun i hi => by
     rcases Nat.lt_or_ge i k with h | h
     ·exact HA.out i h
     ·obtain rfl : i = k := by omega
      rw [HK.out, HK'.out]; exact of_decide_eq_true HDD.out.symm
    go_wp2
    go_roundw
    case rel => exact ⟨k + 1, by omega, by go_num, HA', hB5⟩
    case measure => simp [intOf]; omega
   | false =>
    have HF : Hid (diffI xs ys = k) := diffI_at (by rw [HX.out.len]; exact hlt) HA.out (by rw [HK.out, HK'.out]; exact of_decide_eq_false HDD.out.symm)
    go_wp2
    go_ret
    exact ⟨by rw [HF.out]; rfl, hB5⟩
  ·obtain rfl : k = n := by omega
   have HF : Hid (diffI xs ys = -1) := diffI_no fun i hi => HA.out i (by rw [HX.out.len] at hi; exact hi)
   go_wp2
   go_ret
   exact ⟨by rw [HF.out]; rfl, hB⟩
end Go.Proofs.YtcpcojgmmpnkoaaGreatDoor

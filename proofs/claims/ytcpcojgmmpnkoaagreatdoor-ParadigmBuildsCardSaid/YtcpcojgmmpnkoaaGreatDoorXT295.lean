/-
  ablautlaw29.ParadigmBuilds is true.
-/
import Derived.Test.YtcpcojgmmpnkoaaGreatDoorXR29c
import Derived.Test.YtcpcojgmmpnkoaaGreatDoorG68
import Derived.Test.YtcpcojgmmpnkoaaGreatDoorG67
import Derived.Test.YtcpcojgmmpnkoaaGreatDoorG15
import Derived.Test.YtcpcojgmmpnkoaaGreatDoorG18
set_option linter.unusedVariables false
set_option linter.unusedSimpArgs false
set_option maxRecDepth 100000
set_option maxHeartbeats 4000000
namespace Go.Proofs.YtcpcojgmmpnkoaaGreatDoor
open Go.RowKit Go.Shelf
theorem parBuilds_c (A : Option Addr) (n c : Nat) (wss : List (List Snd)) (A' : Option Addr) (n' c' : Nat) (T : List (List Frm)) (w : World) (hx : IsWords w A n c wss ∧ ∀ x ∈ wss, WordU x) (hy : IsPar w A' n' c' T ∧ ParU T) (hT : TabOK w) :
  Calls Tryz.prog 8 #[.slice A n c, .slice A' n' c'] w (RetTrue w) := by
 have hmx := hx.1.max
 have hmy := hy.1.max
 have HX := hI hx.1
 have HXU := hI hx.2
 have HY := hI hy.1
 have HYU := hI hy.2
 have HT := hI hT
 clear hx hy hT
 go_enter Tryz.func8, Tryz.ntmps8
 go_wp2_with fail
 refine (light29_c A' n' c' T w HY.out).mono ?_
 rintro e w1 ⟨⟨b, rfl, hok⟩, hB1⟩
 cases b with
 | false => go_wp2_with fail
            refine (works29_c _ (HT.out.below hB1 rr)).mono ?_
            rintro e w9 ⟨rfl, hbw⟩
            go_wp2
            go_ret
            exact ⟨rfl, hB1.trans (hbw.mono hB1.size)⟩
 | true =>
  have HOK : Hid (LightOK T) := hok rfl
  clear hok
  have HB1 := hI hB1
  by_cases h70 : 70 < n
  ·have h70' : (70 : Int) < (n : Int) := by omega
   have h12 : (12 : Int) < (n : Int) := by omega
   have h64 : ¬ (n : Int) ≤ 64 := by omega
   go_wp2_with fail
   refine (works29_c _ (HT.out.below hB1 rr)).mono ?_
   rintro e w9 ⟨rfl, hbw⟩
   go_wp2
   go_ret
   exact ⟨rfl, hB1.trans (hbw.mono hB1.size)⟩
  by_cases hmid : 12 < n ∧ n ≤ 64
  ·have h12 : (12 : Int) < (n : Int) := by omega
   have h64 : (n : Int) ≤ 64 := by omega
   go_wp2_with fail
   refine (works29_c _ (HT.out.below hB1 rr)).mono ?_
   rintro e w9 ⟨rfl, hbw⟩
   go_wp2
   go_ret
   exact ⟨rfl, hB1.trans (hbw.mono hB1.size)⟩
  have h70' : ¬ (70 : Int) < (n : Int) := by omega
  by_cases h12 : 12 < n
  ·have h12' : (12 : Int) < (n : Int) := by omega
   have h64 : ¬ (n : Int) ≤ 64 := by omega
   clear h12'
   try clear h64
   go_wp2_with fail
   go_loopw [5, 6] (fun v vi wr => ∃ (i : Nat) (ps : List Part), vi = .int .i64 i ∧ i ≤ n ∧ Hid (ps.length = i) ∧ Hid (WordsW wr w1.heap.size v ps) ∧ Hid (ps.map Part.word = wss.take i) ∧ Below w1.heap.size w1 wr) (fun _ vi _ => n - (intOf vi).toNat)
   case atStart => exact ⟨0, [], rfl, Nat.zero_le _, rfl, WordsW.nil _, by simp [Hid], Below.refl _ _⟩
   case round =>
    obtain ⟨i, ps, rfl, hi, HRI, hww, hdat, hB⟩ := hrel
    have hBs := hB.size
    have hBB := HB1.out.trans (hB.mono HB1.out.size)
    by_cases hlt : i < n
    ·have hi1 : (i : Int) < (n : Int) := by omega
     obtain ⟨b, off, A1, n1, c1, ws, rfl, hb, hc0, hlk, hws⟩ := (HX.out.below hBB rr).at_ hlt
     have HLK := hI hlk
     have HW := hI hws
     clear hlk hws
     by_cases h40 : 40 < n1
     ·have h40' : (40 : Int) < (n1 : Int) := by omega
      go_wp2_with fail
      refine (works29_c _ (HT.out.below hBB rr)).mono ?_
      rintro e w9 ⟨rfl, hbw⟩
      go_wp2
      go_ret
      exact ⟨rfl, hBB.trans (hbw.mono hBB.size)⟩
     have h40' : ¬ (40 : Int) < (n1 : Int) := by omega
     have hown0 : (wr.alloc (.cells #[] 24)).ownsRow wr.heap.size 24 2 (.slice (some ⟨wr.heap.size, 0, none⟩) 0 0) 0 (wcells []) := World.ownsRow_made (base := wr.heap.size) (e := 24) (size := 2) wr #[] 0 rr (by simp [maxLen]) rfl
     have hbA : Below wr.heap.size wr (wr.alloc (.cells #[] 24)) := bel
     go_wp2_with (at_builtin; refine append_snd rfl (.tmp 46) (.tmp 50) rfl wr.heap.size _ 0 [] rfl hown0 A1 n1 c1 ws rfl (HW.out.below hbA rr) (by omega) (by simp) ?hc)
     case hc =>
      intro v5 w5 hown5 hg5 _
      have hb5 : Below wr.heap.size wr w5 := own_below (B := wr.heap.size) hbA hown0 hg5 rr (by simp)
      have hown5' : w5.ownsRow wr.heap.size 24 2 v5 n1 (wcells ws) := by simpa using hown5
      obtain ⟨A5, c5, rfl⟩ := own_form hown5'
      have hw5 : IsWord w5 A5 n1 c5 ws := Cells.of_own hown5' (by decide)
      have hf5 := own_addr hown5'
      have hbV : Below wr.heap.size wr (w5.alloc (.cells #[.slice A5 n1 c5] 32)) := hb5.alloc hb5.size _
      have hb6 : Below w5.heap.size w5 (w5.alloc (.cells #[.slice A5 n1 c5] 32)) := bel
      have HWW6 := hI (hww.out.below hbV)
      have HAW6 : Hid (Away u5 (w5.alloc (.cells #[.slice A5 n1 c5] 32)) (A5, n1, c5, ws)) := hww.out.fresh (q := (A5, n1, c5, ws)) (hw5.below hb6 rr) hf5
      have HB6 := hI (hB.trans (hbV.mono hBs))
      have HN : Hid ((ps ++ [((A5, n1, c5, ws) : Part)]).map Part.word = wss.take (i + 1)) := by
       show _ = _
       rw [take_snoc' wss i _ HLK.out, List.map_append, hdat.out]; rfl
      have hri : ps.length ≤ 70 := by have := HRI.out; omega
      clear hown5 hg5 hown5' hw5 hf5 hbV hb6 hb5 hown0 hbA
      go_wp2_with (at_builtin; refine append_wd rfl (.tmp 45) (.tmp 52) rfl w1.heap.size u5 ps.length (ps.map Part.val) rfl HWW6.out.own ⟨w5.heap.size, 0, none⟩ 1 (.slice A5 n1 c5) rfl (cell_one_new _ _ _) rfl ?hl ?hz ?hd)
      case hl => omega
      case hz => simpa using HB6.out.size
      case hd =>
       intro v' w9 hown9 hg9 hat9
       have HP9 := hI (HWW6.out.push HAW6.out hown9 hg9 (by simpa using hat9))
       have hB9 : Below w1.heap.size w1 w9 := own_below HB6.out HWW6.out.own hg9 rr HB6.out.size
       clear hown9 hg9 hat9
       go_wp2
       go_roundw
       case rel => exact ⟨i + 1, _, by go_num, by omega, by show _ = _; rw [List.length_append, HRI.out]; rfl, HP9.out, HN.out, hB9⟩
       case measure => simp [intOf]; omega
    ·have hi1 : ¬ (i : Int) < (n : Int) := by omega
     have hin : i = n := by omega
     have HD : Hid (ps.map Part.word = wss) := by show _ = _; rw [hdat.out, List.take_of_length_le (by rw [HX.out.len]; omega)]
     obtain ⟨A5, c5, hv5⟩ := own_form hww.out.own
     subst hv5
     have hip := hww.out.words rfl
     rw [HD.out, HRI.out, hin] at hip
     have hpl := HRI.out.trans hin
     have HIP := hI hip; clear hip hin
     rw [hpl]
     clear hpl hww hdat
     go_wp2_with fail
     refine (copied29_c A' n' c' T wr (HY.out.below hBB rr) HOK.out).mono ?_
     rintro e w2 ⟨A7, n7, c7, rfl, hp7, hb2⟩
     have HP7 := hI hp7; clear hp7
     have HIP2 := hI (HIP.out.below hb2 rr)
     have HB2 := hI (hBB.trans (hb2.mono hBB.size))
     clear hb2 hB hBB
     go_wp2_with fail
     refine (pBuild_c A5 n c5 wss A7 n7 c7 T w2 HIP2.out HP7.out).mono ?_
     obtain ⟨r, hr⟩ : ∃ r, r = pBuildM wss T := ⟨_, rfl⟩
     rw [← hr]
     have HR := hI hr; clear hr
     rintro e w3 ⟨A8, n8, c8, rfl, hp8, hb3⟩
     have HP8 := hI hp8; clear hp8
     have HP73 := hI (HP7.out.below hb3 rr)
     have HIP3 := hI (HIP2.out.below hb3 rr)
     have HB3 := hI (HB2.out.trans (hb3.mono HB2.out.size))
     clear hb3
     go_wp2_with fail
     refine (r29Build_c A n c wss A' n' c' T w3 (HX.out.below HB3.out rr) (HY.out.below HB3.out rr) HXU.out HYU.out).mono ?_
     rw [← HR.out]
     rintro e w4 ⟨A9, n9, c9, rfl, hp9, hb4⟩
     have HP9 := hI hp9; clear hp9
     have HP84 := hI (HP8.out.below hb4 rr)
     have HP74 := hI (HP73.out.below hb4 rr)
     have HIP4 := hI (HIP3.out.below hb4 rr)
     have HB4 := hI (HB3.out.trans (hb4.mono HB3.out.size))
     clear hb4
     go_wp2_with fail
     go_loopw [12] (fun vj wr => ∃ j : Nat, vj = .int .i64 j ∧ j ≤ n ∧ Below w4.heap.size w4 wr) (fun vj _ => n - (intOf vj).toNat)
     case atStart => exact ⟨0, rfl, Nat.zero_le _, Below.refl _ _⟩
     case round =>
      obtain ⟨j, rfl, hj, hB⟩ := hrel
      have hBB := HB4.out.trans (hB.mono HB4.out.size)
      by_cases hltj : j < n
      ·have hj1 : (j : Int) < (n : Int) := by omega
       obtain ⟨b, off, A1, n1, c1, ws, rfl, hb, hc0, hlk, hws⟩ := (HX.out.below hBB rr).at_ hltj
       obtain ⟨b', off', A1', n1', c1', ws', rfl, hb', hc0', hlk', hws'⟩ := (HIP4.out.below hB rr).at_ hltj
       obtain rfl : ws = ws' := by rw [hlk] at hlk'; exact Option.some.inj hlk'
       have HW := hI hws
       have HW' := hI hws'
       have hbr : b < wr.heap.size := by have := hBB.size; omega
       have hbr' : b' < wr.heap.size := by have := hB.size; omega
       clear hlk hlk' hws hws'
       go_wp2_with fail
       refine plain_region (fun W' => W'.cell? ⟨b', off' + j, none⟩ = some (.slice A1' n1' c1') ∧ W'.cell? ⟨b, off + j, none⟩ = some (.slice A1 n1 c1)) (by kernel_rfl) ⟨hc0', hc0⟩ (fun hHeld => ?_)
       (refine' anyT_tk 0 rfl ?_; (try simp only [Act.put, nA, nB, nC, nD, nE, nF])); (refine' anyT_tk 1 rfl ?_; (try simp only [Act.put, nA, nB, nC, nD, nE, nF])); (refine' anyT_tk 2 rfl ?_; (try simp only [Act.put, nA, nB, nC, nD, nE, nF])); (refine' anyT_tk 3 rfl ?_; (try simp only [Act.put, nA, nB, nC, nD, nE, nF])); (refine' anyT_tk 4 rfl ?_; (try simp only [Act.put, nA, nB, nC, nD, nE, nF])); (refine' anyT_tk 5 rfl ?_; (try simp only [Act.put, nA, nB, nC, nD, nE, nF])); (refine' anyT_tk 6 rfl ?_; (try simp only [Act.put, nA, nB, nC, nD, nE, nF])); (refine' anyT_tk 7 rfl ?_; (try simp only [Act.put, nA, nB, nC, nD, nE, nF]))
       (refine anyT_step (i := 8) (by kernel_rfl) rfl (fun K' hK' => ?_); simp only [List.getElem_toArray, List.getElem_cons_zero, List.getElem_cons_succ]; go_simp)
       have hbd : Below wr.heap.size wr wr.drew := (Below.refl wr.heap.size wr).drew
       refine (rEqual_c A1' A1 n1' n1 c1' c1 ws ws wr.drew (HW'.out.below hbd rr) (HW.out.below hbd rr)).mono ?_
       rintro e w5 ⟨rfl, hb5d⟩
       rw [World.size_drew] at hb5d
       have hb5 := hbd.trans hb5d
       rw [decide_eq_true rfl]
       have hS5 : w5.cell? ⟨b', off' + j, none⟩ = some (.slice A1' n1' c1') ∧ w5.cell? ⟨b, off + j, none⟩ = some (.slice A1 n1 c1) := ⟨(hb5.cell (p := ⟨b', off' + j, none⟩) hbr').trans hc0', (hb5.cell (p := ⟨b, off + j, none⟩) hbr).trans hc0⟩
       refine hK' _ _ ⟨.inr hS5, fun _ => ?_⟩
       clear hK' K' hHeld hbd hb5d
       (try simp only [Act.put, nA, nB, nC, nD, nE, nF])
       have hB5 := hB.trans (hb5.mono hB.size)
       clear hb5 hc0 hc0'
       (refine anyT_step (i := 9) (by kernel_rfl) rfl (fun K' hK' => ?_); simp only [List.getElem_toArray, List.getElem_cons_zero, List.getElem_cons_succ]; go_simp)
       refine hK' _ _ ⟨.inl (by kernel_rfl), fun _ => anyT_done (by kernel_rfl) ?_ _⟩
       clear hK' K' hS5
       go_wp2
       go_roundw
       case rel => exact ⟨j + 1, by go_num, by omega, hB5⟩
       case measure => simp [intOf]; omega
      ·have hj1 : ¬ (j : Int) < (n : Int) := by omega
       go_wp2_with fail
       refine (same29_c A8 A9 n8 n9 c8 c9 _ _ wr (HP84.out.below hB rr) (HP9.out.below hB rr)).mono ?_
       rintro e w5 ⟨rfl, hb5⟩
       rw [decide_eq_true rfl]
       have hB5 := hB.trans (hb5.mono hB.size)
       have hBB5 := HB4.out.trans (hB5.mono HB4.out.size)
       clear hb5 hB hBB
       go_wp2_with fail
       refine (same29_c A7 A' n7 n' c7 c' _ _ w5 (HP74.out.below hB5 rr) (HY.out.below hBB5 rr)).mono ?_
       rintro e w6 ⟨rfl, hb6⟩
       rw [decide_eq_true rfl]
       have hB6 := hBB5.trans (hb6.mono hBB5.size)
       clear hb6
       go_wp2_with fail
       refine (works29_c _ (HT.out.below hB6 rr)).mono ?_
       rintro e w9 ⟨rfl, hbw⟩
       go_wp2
       go_ret
       exact ⟨rfl, hB6.trans (hbw.mono hB6.size)⟩
  ·have h12' : ¬ (12 : Int) < (n : Int) := by omega
   clear h12'
   try clear h64
   go_wp2_with fail
   go_loopw [5, 6] (fun v vi wr => ∃ (i : Nat) (ps : List Part), vi = .int .i64 i ∧ i ≤ n ∧ Hid (ps.length = i) ∧ Hid (WordsW wr w1.heap.size v ps) ∧ Hid (ps.map Part.word = wss.take i) ∧ Below w1.heap.size w1 wr) (fun _ vi _ => n - (intOf vi).toNat)
   case atStart => exact ⟨0, [], rfl, Nat.zero_le _, rfl, WordsW.nil _, by simp [Hid], Below.refl _ _⟩
   case round =>
    obtain ⟨i, ps, rfl, hi, HRI, hww, hdat, hB⟩ := hrel
    have hBs := hB.size
    have hBB := HB1.out.trans (hB.mono HB1.out.size)
    by_cases hlt : i < n
    ·have hi1 : (i : Int) < (n : Int) := by omega
     obtain ⟨b, off, A1, n1, c1, ws, rfl, hb, hc0, hlk, hws⟩ := (HX.out.below hBB rr).at_ hlt
     have HLK := hI hlk
     have HW := hI hws
     clear hlk hws
     by_cases h40 : 40 < n1
     ·have h40' : (40 : Int) < (n1 : Int) := by omega
      go_wp2_with fail
      refine (works29_c _ (HT.out.below hBB rr)).mono ?_
      rintro e w9 ⟨rfl, hbw⟩
      go_wp2
      go_ret
      exact ⟨rfl, hBB.trans (hbw.mono hBB.size)⟩
     have h40' : ¬ (40 : Int) < (n1 : Int) := by omega
     have hown0 : (wr.alloc (.cells #[] 24)).ownsRow wr.heap.size 24 2 (.slice (some ⟨wr.heap.size, 0, none⟩) 0 0) 0 (wcells []) := World.ownsRow_made (base := wr.heap.size) (e := 24) (size := 2) wr #[] 0 rr (by simp [maxLen]) rfl
     have hbA : Below wr.heap.size wr (wr.alloc (.cells #[] 24)) := bel
     go_wp2_with (at_builtin; refine append_snd rfl (.tmp 46) (.tmp 50) rfl wr.heap.size _ 0 [] rfl hown0 A1 n1 c1 ws rfl (HW.out.below hbA rr) (by omega) (by simp) ?hc)
     case hc =>
      intro v5 w5 hown5 hg5 _
      have hb5 : Below wr.heap.size wr w5 := own_below (B := wr.heap.size) hbA hown0 hg5 rr (by simp)
      have hown5' : w5.ownsRow wr.heap.size 24 2 v5 n1 (wcells ws) := by simpa using hown5
      obtain ⟨A5, c5, rfl⟩ := own_form hown5'
      have hw5 : IsWord w5 A5 n1 c5 ws := Cells.of_own hown5' (by decide)
      have hf5 := own_addr hown5'
      have hbV : Below wr.heap.size wr (w5.alloc (.cells #[.slice A5 n1 c5] 32)) := hb5.alloc hb5.size _
      have hb6 : Below w5.heap.size w5 (w5.alloc (.cells #[.slice A5 n1 c5] 32)) := bel
      have HWW6 := hI (hww.out.below hbV)
      have HAW6 : Hid (Away u5 (w5.alloc (.cells #[.slice A5 n1 c5] 32)) (A5, n1, c5, ws)) := hww.out.fresh (q := (A5, n1, c5, ws)) (hw5.below hb6 rr) hf5
      have HB6 := hI (hB.trans (hbV.mono hBs))
      have HN : Hid ((ps ++ [((A5, n1, c5, ws) : Part)]).map Part.word = wss.take (i + 1)) := by
       show _ = _
       rw [take_snoc' wss i _ HLK.out, List.map_append, hdat.out]; rfl
      have hri : ps.length ≤ 70 := by have := HRI.out; omega
      clear hown5 hg5 hown5' hw5 hf5 hbV hb6 hb5 hown0 hbA
      go_wp2_with (at_builtin; refine append_wd rfl (.tmp 45) (.tmp 52) rfl w1.heap.size u5 ps.length (ps.map Part.val) rfl HWW6.out.own ⟨w5.heap.size, 0, none⟩ 1 (.slice A5 n1 c5) rfl (cell_one_new _ _ _) rfl ?hl ?hz ?hd)
      case hl => omega
      case hz => simpa using HB6.out.size
      case hd =>
       intro v' w9 hown9 hg9 hat9
       have HP9 := hI (HWW6.out.push HAW6.out hown9 hg9 (by simpa using hat9))
       have hB9 : Below w1.heap.size w1 w9 := own_below HB6.out HWW6.out.own hg9 rr HB6.out.size
       clear hown9 hg9 hat9
       go_wp2
       go_roundw
       case rel => exact ⟨i + 1, _, by go_num, by omega, by show _ = _; rw [List.length_append, HRI.out]; rfl, HP9.out, HN.out, hB9⟩
       case measure => simp [intOf]; omega
    ·have hi1 : ¬ (i : Int) < (n : Int) := by omega
     have hin : i = n := by omega
     have HD : Hid (ps.map Part.word = wss) := by show _ = _; rw [hdat.out, List.take_of_length_le (by rw [HX.out.len]; omega)]
     obtain ⟨A5, c5, hv5⟩ := own_form hww.out.own
     subst hv5
     have hip := hww.out.words rfl
     rw [HD.out, HRI.out, hin] at hip
     have hpl := HRI.out.trans hin
     have HIP := hI hip; clear hip hin
     rw [hpl]
     clear hpl hww hdat
     go_wp2_with fail
     refine (copied29_c A' n' c' T wr (HY.out.below hBB rr) HOK.out).mono ?_
     rintro e w2 ⟨A7, n7, c7, rfl, hp7, hb2⟩
     have HP7 := hI hp7; clear hp7
     have HIP2 := hI (HIP.out.below hb2 rr)
     have HB2 := hI (hBB.trans (hb2.mono hBB.size))
     clear hb2 hB hBB
     go_wp2_with fail
     refine (pBuild_c A5 n c5 wss A7 n7 c7 T w2 HIP2.out HP7.out).mono ?_
     obtain ⟨r, hr⟩ : ∃ r, r = pBuildM wss T := ⟨_, rfl⟩
     rw [← hr]
     have HR := hI hr; clear hr
     rintro e w3 ⟨A8, n8, c8, rfl, hp8, hb3⟩
     have HP8 := hI hp8; clear hp8
     have HP73 := hI (HP7.out.below hb3 rr)
     have HIP3 := hI (HIP2.out.below hb3 rr)
     have HB3 := hI (HB2.out.trans (hb3.mono HB2.out.size))
     clear hb3
     go_wp2_with fail
     refine (r29Build_c A n c wss A' n' c' T w3 (HX.out.below HB3.out rr) (HY.out.below HB3.out rr) HXU.out HYU.out).mono ?_
     rw [← HR.out]
     rintro e w4 ⟨A9, n9, c9, rfl, hp9, hb4⟩
     have HP9 := hI hp9; clear hp9
     have HP84 := hI (HP8.out.below hb4 rr)
     have HP74 := hI (HP73.out.below hb4 rr)
     have HIP4 := hI (HIP3.out.below hb4 rr)
     have HB4 := hI (HB3.out.trans (hb4.mono HB3.out.size))
     clear hb4
     go_wp2_with fail
     go_loopw [12] (fun vj wr => ∃ j : Nat, vj = .int .i64 j ∧ j ≤ n ∧ Below w4.heap.size w4 wr) (fun vj _ => n - (intOf vj).toNat)
     case atStart => exact ⟨0, rfl, Nat.zero_le _, Below.refl _ _⟩
     case round =>
      obtain ⟨j, rfl, hj, hB⟩ := hrel
      have hBB := HB4.out.trans (hB.mono HB4.out.size)
      by_cases hltj : j < n
      ·have hj1 : (j : Int) < (n : Int) := by omega
       obtain ⟨b, off, A1, n1, c1, ws, rfl, hb, hc0, hlk, hws⟩ := (HX.out.below hBB rr).at_ hltj
       obtain ⟨b', off', A1', n1', c1', ws', rfl, hb', hc0', hlk', hws'⟩ := (HIP4.out.below hB rr).at_ hltj
       obtain rfl : ws = ws' := by rw [hlk] at hlk'; exact Option.some.inj hlk'
       have HW := hI hws
       have HW' := hI hws'
       have hbr : b < wr.heap.size := by have := hBB.size; omega
       have hbr' : b' < wr.heap.size := by have := hB.size; omega
       clear hlk hlk' hws hws'
       go_wp2_with fail
       refine plain_region (fun W' => W'.cell? ⟨b', off' + j, none⟩ = some (.slice A1' n1' c1') ∧ W'.cell? ⟨b, off + j, none⟩ = some (.slice A1 n1 c1)) (by kernel_rfl) ⟨hc0', hc0⟩ (fun hHeld => ?_)
       (refine' anyT_tk 0 rfl ?_; (try simp only [Act.put, nA, nB, nC, nD, nE, nF])); (refine' anyT_tk 1 rfl ?_; (try simp only [Act.put, nA, nB, nC, nD, nE, nF])); (refine' anyT_tk 2 rfl ?_; (try simp only [Act.put, nA, nB, nC, nD, nE, nF])); (refine' anyT_tk 3 rfl ?_; (try simp only [Act.put, nA, nB, nC, nD, nE, nF])); (refine' anyT_tk 4 rfl ?_; (try simp only [Act.put, nA, nB, nC, nD, nE, nF])); (refine' anyT_tk 5 rfl ?_; (try simp only [Act.put, nA, nB, nC, nD, nE, nF])); (refine' anyT_tk 6 rfl ?_; (try simp only [Act.put, nA, nB, nC, nD, nE, nF])); (refine' anyT_tk 7 rfl ?_; (try simp only [Act.put, nA, nB, nC, nD, nE, nF]))
       (refine anyT_step (i := 8) (by kernel_rfl) rfl (fun K' hK' => ?_); simp only [List.getElem_toArray, List.getElem_cons_zero, List.getElem_cons_succ]; go_simp)
       have hbd : Below wr.heap.size wr wr.drew := (Below.refl wr.heap.size wr).drew
       refine (rEqual_c A1' A1 n1' n1 c1' c1 ws ws wr.drew (HW'.out.below hbd rr) (HW.out.below hbd rr)).mono ?_
       rintro e w5 ⟨rfl, hb5d⟩
       rw [World.size_drew] at hb5d
       have hb5 := hbd.trans hb5d
       rw [decide_eq_true rfl]
       have hS5 : w5.cell? ⟨b', off' + j, none⟩ = some (.slice A1' n1' c1') ∧ w5.cell? ⟨b, off + j, none⟩ = some (.slice A1 n1 c1) := ⟨(hb5.cell (p := ⟨b', off' + j, none⟩) hbr').trans hc0', (hb5.cell (p := ⟨b, off + j, none⟩) hbr).trans hc0⟩
       refine hK' _ _ ⟨.inr hS5, fun _ => ?_⟩
       clear hK' K' hHeld hbd hb5d
       (try simp only [Act.put, nA, nB, nC, nD, nE, nF])
       have hB5 := hB.trans (hb5.mono hB.size)
       clear hb5 hc0 hc0'
       (refine anyT_step (i := 9) (by kernel_rfl) rfl (fun K' hK' => ?_); simp only [List.getElem_toArray, List.getElem_cons_zero, List.getElem_cons_succ]; go_simp)
       refine hK' _ _ ⟨.inl (by kernel_rfl), fun _ => anyT_done (by kernel_rfl) ?_ _⟩
       clear hK' K' hS5
       go_wp2
       go_roundw
       case rel => exact ⟨j + 1, by go_num, by omega, hB5⟩
       case measure => simp [intOf]; omega
      ·have hj1 : ¬ (j : Int) < (n : Int) := by omega
       go_wp2_with fail
       refine (same29_c A8 A9 n8 n9 c8 c9 _ _ wr (HP84.out.below hB rr) (HP9.out.below hB rr)).mono ?_
       rintro e w5 ⟨rfl, hb5⟩
       rw [decide_eq_true rfl]
       have hB5 := hB.trans (hb5.mono hB.size)
       have hBB5 := HB4.out.trans (hB5.mono HB4.out.size)
       clear hb5 hB hBB
       go_wp2_with fail
       refine (same29_c A7 A' n7 n' c7 c' _ _ w5 (HP74.out.below hB5 rr) (HY.out.below hBB5 rr)).mono ?_
       rintro e w6 ⟨rfl, hb6⟩
       rw [decide_eq_true rfl]
       have hB6 := hBB5.trans (hb6.mono hBB5.size)
       clear hb6
       go_wp2_with fail
       refine (works29_c _ (HT.out.below hB6 rr)).mono ?_
       rintro e w9 ⟨rfl, hbw⟩
       go_wp2
       go_ret
       exact ⟨rfl, hB6.trans (hbw.mono hB6.size)⟩
end Go.Proofs.YtcpcojgmmpnkoaaGreatDoor

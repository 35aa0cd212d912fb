/-
  ablautref29.Build.
-/
import Derived.Test.YtcpcojgmmpnkoaaGreatDoorG65
import Derived.Test.YtcpcojgmmpnkoaaGreatDoorG68
import Derived.Test.YtcpcojgmmpnkoaaGreatDoorG69
set_option linter.unusedVariables false
set_option linter.unusedSimpArgs false
set_option maxRecDepth 100000
set_option maxHeartbeats 4000000
namespace Go.Proofs.YtcpcojgmmpnkoaaGreatDoor
open Go.RowKit Go.Shelf
theorem shape_three (T : List (List Frm)) : shapeE T = 0 ∨ shapeE T = 2 ∨ shapeE T = 12 := by
 unfold shapeE
 split
 ·exact .inr (.inr rfl)
 ·split
  ·exact .inr (.inl rfl)
  ·exact .inl rfl
theorem r2CopyO_c (A : Option Addr) (n c : Nat) (xs : List Snd) (w : World) (hx : IsWord w A n c xs) (hn : n ≤ 4000) :
  Calls Tryz.prog 131 #[.slice A n c] w fun e w' => ∃ v, e = .returned v ∧ w'.ownsRow w.heap.size 24 2 v n (wcells xs) ∧ Below w.heap.size w w' := by
 have HX := hI hx; clear hx
 go_enter Tryz.func131, Tryz.ntmps131
 go_wp2
 go_loopw [3, 4] (fun v i wr => ∃ k : Nat, k ≤ n ∧ i = .int .i64 k ∧ Hid (wr.ownsRow w.heap.size 24 2 v k (wcells (xs.take k))) ∧ Below w.heap.size w wr) (fun _ i _ => n - (intOf i).toNat)
 case atStart => exact ⟨0, Nat.zero_le _, rfl, World.ownsRow_nil _ _ _ _, Below.refl _ _⟩
 case round =>
  obtain ⟨k, hk, rfl, hown, hB⟩ := hrel
  have hBs := hB.size
  by_cases hlt : k < n
  ·obtain ⟨b, off, p, m, rfl, hb, hxk, hc0, hc1⟩ := (HX.out.below hB rr).at_ hlt
   have hlt' : (k : Int) < (n : Int) := by omega
   have HS := hI (take_snoc' xs k (p, m) hxk); clear hxk
   go_wp2_with (at_builtin; refine append_snd rfl (.tmp 11) (.tmp 16) rfl w.heap.size u3 k (xs.take k) rfl (hown.out.alloc _) (some ⟨wr.heap.size, 0, none⟩) 1 1 [(p, m)] rfl (word_one wr p m 24) (by omega) (by simp; omega) ?_; intro v' w9 hown9 hg9 _)
   have hB9 : Below w.heap.size w w9 := (hB.alloc hBs _).grown hg9 (by simp; omega) (fun q hq => (hown.out.lt _ hq).1)
   go_roundw
   case rel => exact ⟨k + 1, by omega, by go_num, by show w9.ownsRow _ _ _ _ _ _; rw [HS.out]; exact hown9, hB9⟩
   case measure => simp [intOf]; omega
  ·obtain rfl : k = n := by omega
   have hown' := hown.out
   rw [List.take_of_length_le (by rw [HX.out.len]; exact rr)] at hown'
   go_wp2
   go_ret
   exact ⟨_, rfl, hown', hB⟩
theorem r29Build_c (A' : Option Addr) (n' c' : Nat) (wss : List (List Snd)) (A : Option Addr) (n c : Nat) (T : List (List Frm)) (w : World) (hy : IsWords w A' n' c' wss) (hx : IsPar w A n c T) (hyu : ∀ x ∈ wss, WordU x) (hxu : ParU T) :
  Calls Tryz.prog 62 #[.slice A' n' c', .slice A n c] w (RetPar w (pBuildM wss T)) := by
 have hm := hx.max
 have hm' := hy.max
 have HX := hI hx; clear hx
 have HY := hI hy; clear hy
 have HYU := hI hyu; clear hyu
 have HXU := hI hxu; clear hxu
 go_enter Tryz.func62, Tryz.ntmps62
 go_wp2_with fail
 refine (r29Shape_c A n c T w HX.out).mono ?_
 have HE3 : Hid (shapeE T = 0 ∨ shapeE T = 2 ∨ shapeE T = 12) := shape_three T
 obtain ⟨er, her⟩ : ∃ er, er = shapeE T := ⟨_, rfl⟩
 rw [← her] at HE3
 rw [← her]
 rintro e w0 ⟨rfl, hB0⟩
 have HM : Hid (pBuildM wss T = if 64 < n' ∨ er = 12 then (12, []) else if n' ≠ n ∨ er ≠ 0 then (2, []) else if firstE wss ≠ 0 then (firstE wss, []) else if wordsE T ≠ 0 then (wordsE T, [])
  else if (wss.zip T).any (fun p => p.2.any (longF p.1)) = true then (11, []) else (0, (wss.zip T).map fun p => p.2.map (builtF p.1))) := by show _ = _; unfold pBuildM; rw [← her, HX.out.len, HY.out.len]
 by_cases g1 : 64 < n'
 ·have g1' : (64 : Int) < (n' : Int) := by omega
  have HM' : Hid (pBuildM wss T = (12, [])) := by show _ = _; rw [HM.out, if_pos (.inl g1)]
  go_wp2
  go_ret2
  exact RetPar.bad HM'.out hB0
 have g1' : ¬ (64 : Int) < (n' : Int) := by omega
 by_cases g2 : er = 12
 ·have g2' : (er == 12) = true := by simpa using g2
  have HM' : Hid (pBuildM wss T = (12, [])) := by show _ = _; rw [HM.out, if_pos (.inr g2)]
  clear g2 her
  go_wp2
  go_ret2
  exact RetPar.bad HM'.out hB0
 have g2' : (er == 12) = false := by simpa using g2
 by_cases g3 : n' = n
 case neg =>
  have g3' : ((n' : Int) != (n : Int)) = true := by simp; omega
  have HM' : Hid (pBuildM wss T = (2, [])) := by show _ = _; rw [HM.out, if_neg (by simp [g1, g2]), if_pos (.inl g3)]
  clear g2 g3 her
  go_wp2
  go_ret2
  exact RetPar.bad HM'.out hB0
 subst g3
 have g3' : ((n' : Int) != (n' : Int)) = false := by simp
 by_cases g4 : er = 0
 case neg =>
  have g4' : (er == 2) = true := by rcases HE3.out with q | q | q <;> simp_all
  have HM' : Hid (pBuildM wss T = (2, [])) := by show _ = _; rw [HM.out, if_neg (by simp [g1, g2]), if_pos (.inr g4)]
  clear g2 g4 her
  go_wp2
  go_ret2
  exact RetPar.bad HM'.out hB0
 have g4' : (er == 2) = false := by rw [g4]; rfl
 have HSH : Hid (shapeE T = 0) := by show _ = _; rw [← her]; exact g4
 replace HM : Hid (pBuildM wss T = if firstE wss ≠ 0 then (firstE wss, []) else if wordsE T ≠ 0 then (wordsE T, [])
  else if (wss.zip T).any (fun p => p.2.any (longF p.1)) = true then (11, []) else (0, (wss.zip T).map fun p => p.2.map (builtF p.1))) := by show _ = _; rw [HM.out, if_neg (by simp [g1, g2]), if_neg (by simp [g4])]
 clear g2 g4 her
 have HB0 := hI hB0
 go_wp2_with fail
 clear g2' g3' g4'
 go_loopw [7] (fun vi wr => ∃ k : Nat, vi = .int .i64 k ∧ k ≤ n' ∧ Hid (firstE wss = firstE (wss.drop k)) ∧ Below w0.heap.size w0 wr) (fun vi _ => n' - (intOf vi).toNat)
 case atStart => exact ⟨0, rfl, Nat.zero_le _, rfl, Below.refl _ _⟩
 case round =>
  obtain ⟨k, rfl, hk, hre, hB⟩ := hrel
  have hBB := HB0.out.trans (hB.mono HB0.out.size)
  by_cases hlt : k < n'
  ·have hk1 : (k : Int) < (n' : Int) := by omega
   obtain ⟨b, off, A1, n1, c1, ws, rfl, hb, hc0, hlk, hws⟩ := (HY.out.below hBB rr).at_ hlt
   have HD := hI (first_drop hlk)
   have HWU : Hid (WordU ws) := HYU.out ws (List.mem_of_getElem? hlk)
   have HW := hI hws
   clear hlk hws
   go_wp2_with fail
   refine (r2Check_c A1 n1 c1 ws wr HW.out HWU.out).mono ?_
   obtain ⟨ew, hew⟩ : ∃ ew, ew = wcheck ws := ⟨_, rfl⟩
   rw [← hew] at HD ⊢
   clear hew
   rintro e w3 ⟨rfl, hb3⟩
   have hB3 := hB.trans (hb3.mono hB.size)
   clear hb3 hc0
   by_cases h0 : ew = 0
   ·have h1 : (ew != 0) = false := by simpa using h0
    have HN : Hid (firstE wss = firstE (wss.drop (k + 1))) := by show _ = _; rw [hre.out, HD.out, if_neg (by simpa using h0)]
    clear h0
    go_wp2
    go_roundw
    case rel => exact ⟨k + 1, by go_num, by omega, HN.out, hB3⟩
    case measure => simp [intOf]; omega
   ·have h1 : (ew != 0) = true := by simpa using h0
    have HM' : Hid (pBuildM wss T = (ew, [])) := by
     have h2 : firstE wss = ew := by rw [hre.out, HD.out, if_pos h0]
     show _ = _
     rw [HM.out, h2, if_pos h0]
    clear h0
    go_wp2
    go_ret2
    exact RetPar.bad HM'.out (HB0.out.trans (hB3.mono HB0.out.size))
  have hk1 : ¬ (k : Int) < (n' : Int) := by omega
  have HF0 : Hid (firstE wss = 0) := by show _ = _; rw [hre.out, List.drop_eq_nil_of_le (by rw [HY.out.len]; omega)]; rfl
  clear hre
  go_wp2_with fail
  refine (r29Words_c A n' c T wr (HX.out.below hBB rr) HXU.out).mono ?_
  obtain ⟨er, her⟩ : ∃ er, er = wordsE T := ⟨_, rfl⟩
  rw [← her]
  rintro e w1 ⟨rfl, hb2⟩
  have hB1 := hBB.trans (hb2.mono hBB.size)
  clear hb2 hB hBB
  by_cases h0 : er = 0
  case neg =>
   have h1 : (er != 0) = true := by simpa using h0
   have HM' : Hid (pBuildM wss T = (er, [])) := by show _ = _; rw [HM.out, if_neg (by simp [HF0.out]), ← her, if_pos h0]
   clear h0 her
   go_wp2
   go_ret2
   exact RetPar.bad HM'.out hB1
  have h1 : (er != 0) = false := by simpa using h0
  have HPE : Hid (parE T = 0) := by show _ = _; unfold parE; rw [if_neg (by simp [HSH.out]), ← her]; exact h0
  replace HM : Hid (pBuildM wss T = if (wss.zip T).any (fun p => p.2.any (longF p.1)) = true then (11, []) else (0, (wss.zip T).map fun p => p.2.map (builtF p.1))) := by show _ = _; rw [HM.out, if_neg (by simp [HF0.out]), if_neg (by rw [← her]; simpa using h0)]
  clear h0 her
  have HLZ : Hid ((wss.zip T).length = n') := by show _ = _; rw [List.length_zip, HX.out.len, HY.out.len, Nat.min_self]
  have HB1 := hI hB1
  go_wp2_with fail
  go_loopw [10, 11] (fun v vi wr => ∃ (i : Nat) (rs : List RowR), vi = .int .i64 i ∧ i ≤ n' ∧ Hid (rs.length = i) ∧ Hid (ParW wr w1.heap.size v rs) ∧ Hid (rs.map RowR.l = ((wss.zip T).take i).map fun p => p.2.map (builtF p.1)) ∧ Hid (((wss.zip T).take i).any (fun p => p.2.any (longF p.1)) = false) ∧ Below w1.heap.size w1 wr) (fun _ vi _ => n' - (intOf vi).toNat)
  case atStart => exact ⟨0, [], rfl, Nat.zero_le _, rfl, ParW.nil _, by simp [Hid], rfl, Below.refl _ _⟩
  case round =>
   obtain ⟨i, rs, rfl, hi, HRI, hpw, hdat, hbad, hB⟩ := hrel
   have hBs := hB.size
   by_cases hlt : i < n'
   ·have hi1 : (i : Int) < (n' : Int) := by omega
    obtain ⟨b, off, A1, n1, c1, l, rfl, hb, hc00, hlk, hfl⟩ := HX.out.at_ hlt
    obtain ⟨b9, off9, A9, n9, c9, st, rfl, hb9, hs00, hsk, hsw⟩ := HY.out.at_ hlt
    have HC1 := hI hc00; clear hc00
    have HS00 := hI hs00; clear hs00
    have hmem := List.mem_of_getElem? hlk
    have h16 := (shape_len (par_shape HPE.out)).2.1 _ hmem
    rw [hfl.len] at h16
    have HOK : Hid (∀ x ∈ l, wcheck x.2 = 0 ∧ (x.1 = false → x.2 = [])) := fun x hx => ⟨words_all HPE.out hmem hx, ((shape_len (par_shape HPE.out)).2.2 _ hmem).2 x hx⟩
    have hst32 : st.length ≤ 32 := wcheck_len (firstE_all HF0.out st (List.mem_of_getElem? hsk))
    have hst9 : n9 ≤ 32 := by rw [← hsw.len]; exact hst32
    have HF := hI hfl
    have HST := hI hsw
    have HLI : Hid ((wss.zip T)[i]? = some (st, l)) := zip_at hsk hlk
    clear hfl hlk hmem hsk hsw
    obtain ⟨wi, hwi⟩ : ∃ wi, wi = wr := ⟨_, rfl⟩
    rw [← hwi] at hpw hB hBs
    have HWI := hI hwi
    clear hwi
    go_wp2_with fail
    go_loopw [12, 13] (fun u vj wr => ∃ (j : Nat) (fs : List FormR), vj = .int .i64 j ∧ j ≤ n1 ∧ fs.length = j ∧ Hid (FrmW wr wi.heap.size u fs) ∧ Hid (∀ f ∈ fs, ∀ ad, f.p.1 = some ad → wi.heap.size ≤ ad.block) ∧ Hid (fs.map FormR.data = (l.take j).map (builtF st)) ∧ Hid ((l.take j).any (longF st) = false) ∧ Below wi.heap.size wi wr) (fun _ vj _ => n1 - (intOf vj).toNat)
    case atStart => exact ⟨0, [], rfl, Nat.zero_le _, rfl, by rw [← HWI.out]; exact FrmW.nil _, (fun f hf => by cases hf), by simp [Hid], rfl, by rw [← HWI.out]; exact Below.refl _ _⟩
    case round =>
     obtain ⟨j, fs, rfl, hj, hfl, hfw, hfr, hda2, hba2, hB2⟩ := hrel
     have hB2s := hB2.size
     have hBB1 := hB.trans (hB2.mono hBs)
     have hBB2 := HB1.out.trans (hBB1.mono HB1.out.size)
     have hd1 := (hBB2.cell (p := ⟨b, off + i, none⟩) hb).trans HC1.out
     by_cases hltj : j < n1
     ·have hj1 : (j : Int) < (n1 : Int) := by omega
      obtain ⟨b2, off2, h, A2, n2, c2, ws, rfl, hb2w, e00, e10, hlj, hwj⟩ := HF.out.at_ hltj
      have e0 := (hBB2.cell (p := ⟨b2, off2 + j * 2, none⟩) hb2w).trans e00
      have e1 := (hBB2.cell (p := ⟨b2, off2 + j * 2 + 1, none⟩) hb2w).trans e10
      have e2 := (hBB2.cell (p := ⟨b9, off9 + i, none⟩) hb9).trans HS00.out
      obtain ⟨hwc, hnk⟩ := HOK.out _ (List.mem_of_getElem? hlj)
      have hw32 : n2 ≤ 32 := by rw [← hwj.len]; exact wcheck_len hwc
      have HNK : Hid (h = false → ws = []) := hnk
      have HLJ := hI hlj
      have HW := hI hwj
      clear hlj hwj hwc hnk
      have hb1 : Below wr.heap.size wr (wr.alloc (.cells #[.bool h, .slice none 0 0] 77)) := bel
      have hbx : (wr.alloc (.cells #[.bool h, .slice none 0 0] 77)).heap[wr.heap.size]? = some (.cells #[.bool h, .slice none 0 0] 77 (0, 0)) := hpt
      have hzV : (wr.alloc (.cells #[.bool h, .slice none 0 0] 77)).heap.size = wr.heap.size + 1 := by simp
      have hb2r : b2 < wr.heap.size := by have := hBB2.size; omega
      have hbr : b < wr.heap.size := by have := hBB2.size; omega
      have hb9r : b9 < wr.heap.size := by have := hBB2.size; omega
      cases h with
      | false =>
       obtain rfl : ws = [] := HNK.out rfl
       obtain rfl : 0 = n2 := HW.out.len
       have hbb : Below wr.heap.size wr ((wr.alloc (.cells #[.bool false, .slice none 0 0] 77)).alloc (.cells #[.bool false, .slice none 0 0] 77)) := bel
       have hz2 : ((wr.alloc (.cells #[.bool false, .slice none 0 0] 77)).alloc (.cells #[.bool false, .slice none 0 0] 77)).heap[wr.heap.size + 1]? = some (.cells #[.bool false, .slice none 0 0] 77 (0, 0)) := hpt
       have HFW1 := hI (hfw.out.below hbb)
       have HAW : Hid (Away u12 ((wr.alloc (.cells #[.bool false, .slice none 0 0] 77)).alloc (.cells #[.bool false, .slice none 0 0] 77)) (none, 0, 0, [])) := ⟨Cells.nil _ _, fun ad h => by cases h⟩
       have HDN : Hid ((fs ++ [(⟨false, (none, 0, 0, [])⟩ : FormR)]).map FormR.data = (l.take (j + 1)).map (builtF st)) := by show _ = _; rw [take_snoc' l j _ HLJ.out, List.map_append, List.map_append, hda2.out]; rfl
       have HBN : Hid ((l.take (j + 1)).any (longF st) = false) := any_snoc HLJ.out hba2.out rfl
       have HFR : Hid (∀ f' ∈ fs ++ [(⟨false, (none, 0, 0, [])⟩ : FormR)], ∀ ad, f'.p.1 = some ad → wi.heap.size ≤ ad.block) := fun f' hf' ad had => by
        rcases List.mem_append.1 hf' with h1 | h1
        ·exact hfr.out f' h1 ad had
        ·obtain rfl : f' = ⟨false, (none, 0, 0, [])⟩ := by simpa using h1
         cases had
       have hB6 : Below wi.heap.size wi ((wr.alloc (.cells #[.bool false, .slice none 0 0] 77)).alloc (.cells #[.bool false, .slice none 0 0] 77)) := hB2.trans (hbb.mono hB2s)
       have HB6 := hI hB6
       have hfl' : fs.length ≤ 16 := by omega
       have HFL := hI hfl
       have HZ2 := hI hz2
       clear hbb hb1 hbx hzV hB6 hfl hz2
       go_wp2_with (at_builtin; refine append_frm rfl (.tmp 97) (.tmp 99) rfl wi.heap.size u12 fs.length (fs.flatMap FormR.cells) rfl HFW1.out.own ⟨wr.heap.size + 1, 0, none⟩ 1 ⟨false, (none, 0, 0, [])⟩ rfl (form_cells HZ2.out) ?hl ?hz ?hc)
       case hl => omega
       case hz => simpa using HB6.out.size
       case hc =>
        intro v9 X9 hown9 hg9 hat9
        have HFW9 := hI (HFW1.out.push HAW.out hown9 hg9 (by simpa using hat9))
        have hB9 : Below wi.heap.size wi X9 := own_below HB6.out HFW1.out.own hg9 rr HB6.out.size
        clear hown9 hg9 hat9
        go_wp2
        go_roundw
        case rel => exact ⟨j + 1, _, by go_num, by omega, by rw [List.length_append, HFL.out]; rfl, HFW9.out, HFR.out, HDN.out, HBN.out, hB9⟩
        case measure => simp [intOf]; omega
      | true =>
       go_wp2_with fail
       generalize (wr.alloc (.cells #[.bool true, .slice none 0 0] 77)) = V1 at *
       obtain ⟨bx, hbxe⟩ : ∃ bx, bx = wr.heap.size := ⟨_, rfl⟩
       rw [← hbxe] at hbx hzV ⊢
       have hbxw : wr.heap.size ≤ bx := Nat.le_of_eq hbxe.symm
       have hbxV := lt_of_block hbx
       have HBX1 := hI hbx
       have hBV := hB2.trans (hb1.mono hB2s)
       have k1 := (hb1.cell (p := ⟨b9, off9 + i, none⟩) hb9r).trans e2
       have k2 := (hb1.cell (p := ⟨b, off + i, none⟩) hbr).trans hd1
       have k3 := (hb1.cell (p := ⟨b2, off2 + j * 2 + 1, none⟩) hb2r).trans e1
       have hBBV := HB1.out.trans ((hB.trans (hBV.mono hBs)).mono HB1.out.size)
       have HSV := hI (HST.out.below hBBV rr)
       have HWV := hI (HW.out.below hBBV rr)
       have HKS := hI (And.intro k1 (And.intro k2 k3))
       clear hbx hbxe e0 e1 e2 hd1 k1 k2 k3
       refine plain_region (fun W' => W'.cell? ⟨b9, off9 + i, none⟩ = some (.slice A9 n9 c9) ∧ W'.cell? ⟨b, off + i, none⟩ = some (.slice (some ⟨b2, off2, none⟩) n1 c1) ∧ W'.cell? ⟨b2, off2 + j * 2 + 1, none⟩ = some (.slice A2 n2 c2)) (by kernel_rfl) HKS.out (fun hHeld => ?_)
       (refine' anyT_tk 0 rfl ?_; (try simp only [Act.put, nA, nB, nC, nD, nE, nF])); (refine' anyT_tk 1 rfl ?_; (try simp only [Act.put, nA, nB, nC, nD, nE, nF])); (refine' anyT_tk 2 rfl ?_; (try simp only [Act.put, nA, nB, nC, nD, nE, nF])); (refine' anyT_tk 3 rfl ?_; (try simp only [Act.put, nA, nB, nC, nD, nE, nF])); (refine' anyT_tk 5 rfl ?_; (try simp only [Act.put, nA, nB, nC, nD, nE, nF])); (refine' anyT_tk 6 rfl ?_; (try simp only [Act.put, nA, nB, nC, nD, nE, nF])); (refine' anyT_tk 7 rfl ?_; (try simp only [Act.put, nA, nB, nC, nD, nE, nF])); (refine' anyT_tk 8 rfl ?_; (try simp only [Act.put, nA, nB, nC, nD, nE, nF])); (refine' anyT_tk 9 rfl ?_; (try simp only [Act.put, nA, nB, nC, nD, nE, nF])); (refine' anyT_tk 10 rfl ?_; (try simp only [Act.put, nA, nB, nC, nD, nE, nF])); (refine' anyT_tk 11 rfl ?_; (try simp only [Act.put, nA, nB, nC, nD, nE, nF])); (refine' anyT_tk 12 rfl ?_; (try simp only [Act.put, nA, nB, nC, nD, nE, nF]))
       (refine anyT_step (i := 4) (by kernel_rfl) rfl (fun K' hK' => ?_); simp only [List.getElem_toArray, List.getElem_cons_zero, List.getElem_cons_succ]; go_simp)
       have hbd : Below V1.heap.size V1 V1.drew := (Below.refl V1.heap.size V1).drew
       refine (r2CopyO_c A9 n9 c9 st V1.drew (HSV.out.below hbd rr) (by omega)).mono ?_
       rintro e w5 ⟨v5, rfl, hown5, hb5d⟩
       rw [World.size_drew] at hown5 hb5d
       have hb5 := hbd.trans hb5d
       clear hbd hb5d
       have hS5 : w5.cell? ⟨b9, off9 + i, none⟩ = some (.slice A9 n9 c9) ∧ w5.cell? ⟨b, off + i, none⟩ = some (.slice (some ⟨b2, off2, none⟩) n1 c1) ∧ w5.cell? ⟨b2, off2 + j * 2 + 1, none⟩ = some (.slice A2 n2 c2) := ⟨(hb5.cell (p := ⟨b9, off9 + i, none⟩) (by show b9 < _; omega)).trans HKS.out.1, (hb5.cell (p := ⟨b, off + i, none⟩) (by show b < _; omega)).trans HKS.out.2.1, (hb5.cell (p := ⟨b2, off2 + j * 2 + 1, none⟩) (by show b2 < _; omega)).trans HKS.out.2.2⟩
       refine hK' _ _ ⟨.inr hS5, fun _ => ?_⟩
       clear hK' K' hHeld
       (try simp only [Act.put, nA, nB, nC, nD, nE, nF])
       refine anyT_step (i := 13) (by kernel_rfl) rfl (fun K' hK' => ?_)
       rw [if_pos (by rfl)]
       refine wp_append_snd (.tmp 82) (.tmp 90) rfl V1.heap.size v5 n9 st (by rfl) hown5 A2 n2 c2 ws (by rfl) (HWV.out.below hb5 rr) (by omega) hb5.size ?_
       intro v7 w7 hown7 hg7
       have hb7 : Below V1.heap.size V1 w7 := own_below hb5 hown5 hg7 rr hb5.size
       obtain ⟨A7, c7, rfl⟩ := own_form hown7
       have hw7 : IsWord w7 A7 (n9 + n2) c7 (st ++ ws) := Cells.of_own hown7 (by decide)
       have hf7 := own_addr hown7
       have hS7 : w7.cell? ⟨b9, off9 + i, none⟩ = some (.slice A9 n9 c9) ∧ w7.cell? ⟨b, off + i, none⟩ = some (.slice (some ⟨b2, off2, none⟩) n1 c1) ∧ w7.cell? ⟨b2, off2 + j * 2 + 1, none⟩ = some (.slice A2 n2 c2) := ⟨(hb7.cell (p := ⟨b9, off9 + i, none⟩) (by show b9 < _; omega)).trans HKS.out.1, (hb7.cell (p := ⟨b, off + i, none⟩) (by show b < _; omega)).trans HKS.out.2.1, (hb7.cell (p := ⟨b2, off2 + j * 2 + 1, none⟩) (by show b2 < _; omega)).trans HKS.out.2.2⟩
       refine hK' _ _ ⟨.inr hS7, fun _ => ?_⟩
       clear hK' K' hown7 hg7 hown5 hb5 hS5
       (try simp only [Act.put, nA, nB, nC, nD, nE, nF])
       have hx7 := (hb7.block bx hbxV).trans HBX1.out
       have m1 : w7.frozen? ⟨bx, 1, none⟩ = false := frozen_of_row w7 bx 1 _ _ hx7
       have m2 : w7.cell? ⟨bx, 1, none⟩ = some (.slice none 0 0) := cell_at_heap hx7 rfl
       (refine' anyT_tk 14 rfl ?_; (try simp only [Act.put, nA, nB, nC, nD, nE, nF]))
       (refine anyT_step (i := 15) (by kernel_rfl) rfl (fun K' hK' => ?_); simp only [List.getElem_toArray, List.getElem_cons_zero, List.getElem_cons_succ]; go_simp)
       refine hK' _ _ ⟨.inl (by kernel_rfl), fun _ => anyT_done (by kernel_rfl) ?_ _⟩
       clear hK' K' hS7
       have hbw7 : Below wr.heap.size wr (w7.setCell ⟨bx, 1, none⟩ (.slice A7 (n9 + n2) c7)) := (hb1.trans (hb7.mono hb1.size)).setCell (p := ⟨bx, 1, none⟩) hbxw _
       have hbx8 : (w7.setCell ⟨bx, 1, none⟩ (.slice A7 (n9 + n2) c7)).heap[bx]? = some (.cells #[.bool true, .slice A7 (n9 + n2) c7] 77 (0, 0)) := heap_setCell_same hx7
       have hkx : Keep (fun k => k = bx) w7 (w7.setCell ⟨bx, 1, none⟩ (.slice A7 (n9 + n2) c7)) := (Keep.refl (fun k => k = bx) w7).setCell (p := ⟨bx, 1, none⟩) rfl _
       have hw8 : IsWord (w7.setCell ⟨bx, 1, none⟩ (.slice A7 (n9 + n2) c7)) A7 (n9 + n2) c7 (st ++ ws) := hw7.keep hkx fun _ ad had e => by have := hf7 ad had; omega
       have hlen : (st ++ ws).length = n9 + n2 := hw7.len
       have HLONG : Hid (longF st (true, ws) = decide (32 < n9 + n2)) := by show decide (32 < (st ++ ws).length) = _; rw [hlen]
       have hf8 : ∀ ad, A7 = some ad → wr.heap.size ≤ ad.block := fun ad had => Nat.le_trans hb1.size (hf7 ad had)
       have HBB8 := hI (HB1.out.trans ((hB.trans ((hB2.trans (hbw7.mono hB2s)).mono hBs)).mono HB1.out.size))
       clear hlen hw7 hf7 hkx hb7 hx7 m1 m2
       generalize hW8 : w7.setCell ⟨bx, 1, none⟩ (.slice A7 (n9 + n2) c7) = W8 at *
       clear hW8
       obtain ⟨m, hm⟩ : ∃ m, m = n9 + n2 := ⟨_, rfl⟩
       rw [← hm] at hbx8 hw8 HLONG ⊢
       clear hm
       have k1 : W8.cell? ⟨bx, 0, none⟩ = some (.bool true) := cell_at_heap hbx8 rfl
       have k2 : W8.cell? ⟨bx, 1, none⟩ = some (.slice A7 m c7) := cell_at_heap hbx8 rfl
       by_cases h32 : 32 < m
       ·have h32' : (32 : Int) < (m : Int) := by omega
        have HM' : Hid (pBuildM wss T = (11, [])) := by
         show _ = _
         rw [HM.out, if_pos (any_at HLI.out (any_at HLJ.out (by rw [HLONG.out]; exact decide_eq_true h32)))]
        clear hbx8
        go_wp2
        go_ret2
        exact RetPar.bad HM'.out HBB8.out
       have h32' : ¬ (32 : Int) < (m : Int) := by omega
       have HBN : Hid ((l.take (j + 1)).any (longF st) = false) := any_snoc HLJ.out hba2.out (by rw [HLONG.out]; exact decide_eq_false h32)
       have hba : Below W8.heap.size W8 (W8.alloc (.cells #[.bool true, .slice A7 m c7] 77)) := bel
       have hz2 : (W8.alloc (.cells #[.bool true, .slice A7 m c7] 77)).heap[W8.heap.size]? = some (.cells #[.bool true, .slice A7 m c7] 77 (0, 0)) := hpt
       have HFW1 := hI (hfw.out.below (hbw7.trans (hba.mono hbw7.size)))
       have HAW : Hid (Away u12 (W8.alloc (.cells #[.bool true, .slice A7 m c7] 77)) (A7, m, c7, st ++ ws)) := hfw.out.fresh (q := (A7, m, c7, st ++ ws)) (hw8.below hba rr) hf8
       have HDN : Hid ((fs ++ [(⟨true, (A7, m, c7, st ++ ws)⟩ : FormR)]).map FormR.data = (l.take (j + 1)).map (builtF st)) := by show _ = _; rw [take_snoc' l j _ HLJ.out, List.map_append, List.map_append, hda2.out]; rfl
       have HFR : Hid (∀ f' ∈ fs ++ [(⟨true, (A7, m, c7, st ++ ws)⟩ : FormR)], ∀ ad, f'.p.1 = some ad → wi.heap.size ≤ ad.block) := fun f' hf' ad had => by
        rcases List.mem_append.1 hf' with h1 | h1
        ·exact hfr.out f' h1 ad had
        ·obtain rfl : f' = ⟨true, (A7, m, c7, st ++ ws)⟩ := by simpa using h1
         exact Nat.le_trans hB2s (hf8 ad had)
       have HB6 : Hid (Below wi.heap.size wi (W8.alloc (.cells #[.bool true, .slice A7 m c7] 77))) := hB2.trans ((hbw7.trans (hba.mono hbw7.size)).mono hB2s)
       have hfl' : fs.length ≤ 16 := by omega
       have HFL := hI hfl
       have HZ2 := hI hz2
       clear hba hb1 hzV hfl hz2 hbx8 hw8 hf8 hbw7
       go_wp2_with (at_builtin; refine append_frm rfl (.tmp 97) (.tmp 99) rfl wi.heap.size u12 fs.length (fs.flatMap FormR.cells) rfl HFW1.out.own ⟨W8.heap.size, 0, none⟩ 1 ⟨true, (A7, m, c7, st ++ ws)⟩ rfl (form_cells HZ2.out) ?hl ?hz ?hc)
       case hl => omega
       case hz => simpa using HB6.out.size
       case hc =>
        intro v9 X9 hown9 hg9 hat9
        have HFW9 := hI (HFW1.out.push HAW.out hown9 hg9 (by simpa using hat9))
        have hB9 : Below wi.heap.size wi X9 := own_below HB6.out HFW1.out.own hg9 rr HB6.out.size
        clear hown9 hg9 hat9
        go_wp2
        go_roundw
        case rel => exact ⟨j + 1, _, by go_num, by omega, by rw [List.length_append, HFL.out]; rfl, HFW9.out, HFR.out, HDN.out, HBN.out, hB9⟩
        case measure => simp [intOf]; omega
     ·have hj1 : ¬ ((j : Int) < (n1 : Int)) := by omega
      have HDF : Hid (fs.map FormR.data = l.map (builtF st)) := by show _ = _; rw [hda2.out, List.take_of_length_le (by rw [HF.out.len]; omega)]
      have HN2 : Hid (((wss.zip T).take (i + 1)).any (fun p => p.2.any (longF p.1)) = false) := any_snoc HLI.out hbad.out (by
       have := hba2.out
       rwa [List.take_of_length_le (by rw [HF.out.len]; omega)] at this)
      obtain ⟨A8, c8, hv8⟩ := own_form hfw.out.own
      obtain ⟨A7, c7, hv7⟩ := own_form hpw.out.own
      subst hv8 hv7
      have haw : FAway (.slice A7 rs.length c7) wr ⟨A8, fs.length, c8, fs.map FormR.data⟩ := FrmW.away (v' := .slice A7 rs.length c7) hfw.out rfl (fun k e => (hpw.out.own.lt k e).2) (fun f hf ad had _ e => by have h1 := (hpw.out.own.lt _ e).2; have h2 := hfr.out f hf ad had; omega)
      have hb4 : Below wr.heap.size wr (wr.alloc (.cells #[.slice A8 fs.length c8] 70)) := bel
      have HFA := hI (haw.below hb4)
      have hpr : ParW wr w1.heap.size (.slice A7 rs.length c7) rs := hpw.out.below hB2
      have HPW := hI (hpr.below hb4)
      have hB4 := hBB1.trans (hb4.mono hBB1.size)
      have HN : Hid ((rs ++ [(⟨A8, fs.length, c8, fs.map FormR.data⟩ : RowR)]).map RowR.l = ((wss.zip T).take (i + 1)).map fun p => p.2.map (builtF p.1)) := by
       show _ = _
       rw [take_snoc' (wss.zip T) i _ HLI.out, List.map_append, List.map_append, hdat.out]
       show _ ++ [fs.map FormR.data] = _
       rw [HDF.out]; rfl
      have hri : rs.length ≤ 64 := by have := HRI.out; omega
      have HFL := hI hfl
      clear haw hpr hfl
      go_wp2_with (at_builtin; refine append_fms rfl (.tmp 101) (.tmp 103) rfl w1.heap.size (.slice A7 rs.length c7) rs.length (rs.map RowR.val) rfl HPW.out.own ⟨wr.heap.size, 0, none⟩ 1 (.slice A8 fs.length c8) rfl (cell_one_new _ _ _) rfl ?hl ?hz ?hc)
      case hl => omega
      case hz => simpa using hB4.size
      case hc =>
       intro v' w9 hown9 hg9 hat9
       have HP9 := hI (HPW.out.push HFA.out hown9 hg9 (by simpa using hat9))
       have hB9 : Below w1.heap.size w1 w9 := own_below hB4 HPW.out.own hg9 rr hB4.size
       clear hown9 hg9 hat9
       go_wp2
       go_roundw
       case rel => exact ⟨i + 1, _, by go_num, by omega, by show _ = _; rw [List.length_append, HRI.out]; rfl, HP9.out, HN.out, HN2.out, hB9⟩
       case measure => simp [intOf]; omega
   ·have hi1 : ¬ ((i : Int) < (n' : Int)) := by omega
    have HD : Hid (rs.map RowR.l = (wss.zip T).map fun p => p.2.map (builtF p.1)) := by show _ = _; rw [hdat.out, List.take_of_length_le (by rw [HLZ.out]; omega)]
    have HM' : Hid (pBuildM wss T = (0, (wss.zip T).map fun p => p.2.map (builtF p.1))) := by
     have := hbad.out
     rw [List.take_of_length_le (by rw [HLZ.out]; omega)] at this
     show _ = _
     rw [HM.out, if_neg (by rw [this]; decide)]
    obtain ⟨A8, c8, hv8⟩ := own_form hpw.out.own
    subst hv8
    have hip := hpw.out.par rfl
    rw [HD.out] at hip
    have HP := hI hip; clear hip
    go_wp2
    go_ret2
    exact ⟨A8, _, c8, by rw [HM'.out]; rfl, by rw [HM'.out]; exact HP.out, HB1.out.trans (hB.mono HB1.out.size)⟩
end Go.Proofs.YtcpcojgmmpnkoaaGreatDoor

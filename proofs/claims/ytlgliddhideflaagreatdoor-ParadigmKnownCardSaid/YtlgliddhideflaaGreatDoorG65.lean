/-
  paradigm.Build.
-/
import Derived.Test.YtlgliddhideflaaGreatDoorG64
set_option linter.all false
set_option maxRecDepth 100000
set_option maxHeartbeats 4000000
namespace Go.Proofs.YtlgliddhideflaaGreatDoor
open Go.RowKit Go.Shelf
def builtF (s : List Snd) (x : Frm) : Frm := (x.1, if x.1 then s ++ x.2 else x.2)
def longF (s : List Snd) (x : Frm) : Bool := decide (32 < (builtF s x).2.length)
def pBuildM (wss : List (List Snd)) (T : List (List Frm)) : Int × List (List Frm) :=
 if 64 < wss.length ∨ shapeE T = 12 then (12, []) else if wss.length ≠ T.length ∨ shapeE T ≠ 0 then (2, []) else if firstE wss ≠ 0 then (firstE wss, []) else if wordsE T ≠ 0 then (wordsE T, [])
 else if (wss.zip T).any (fun p => p.2.any (longF p.1)) = true then (11, []) else (0, (wss.zip T).map fun p => p.2.map (builtF p.1))
theorem first_drop {wss : List (List Snd)} {k : Nat} {ws : List Snd} (h : wss[k]? = some ws) : firstE (wss.drop k) = if wcheck ws ≠ 0 then wcheck ws else firstE (wss.drop (k + 1)) := by
 obtain ⟨hk, hk'⟩ := List.getElem?_eq_some_iff.1 h
 rw [List.drop_eq_getElem_cons hk, hk', firstE_cons]
theorem zip_at {α β : Type} {a : List α} {b : List β} {i : Nat} {x : α} {y : β} (h1 : a[i]? = some x) (h2 : b[i]? = some y) : (a.zip b)[i]? = some (x, y) := by
 rw [List.getElem?_zip_eq_some]; exact ⟨h1, h2⟩
theorem pBuild_c (A' : Option Addr) (n' c' : Nat) (wss : List (List Snd)) (A : Option Addr) (n c : Nat) (T : List (List Frm)) (w : World) (hy : IsWords w A' n' c' wss) (hx : IsPar w A n c T) :
  Calls Tryz.prog 38 #[.slice A' n' c', .slice A n c] w (RetPar w (pBuildM wss T)) := by
 have hm := hx.max
 have hm' := hy.max
 have HX := hI hx; clear hx
 have HY := hI hy; clear hy
 go_enter Tryz.func38, Tryz.ntmps38
 go_wp2_with fail
 refine (pShape_c A n c T w HX.out).mono ?_
 obtain ⟨er, her⟩ : ∃ er, er = shapeE T := ⟨_, rfl⟩
 rw [← her]
 rintro e w0 ⟨rfl, hB0⟩
 have HM : Hid (pBuildM wss T = if 64 < n' ∨ er = 12 then (12, []) else if n' ≠ n ∨ er ≠ 0 then (2, []) else if firstE wss ≠ 0 then (firstE wss, []) else if wordsE T ≠ 0 then (wordsE T, [])
  else if (wss.zip T).any (fun p => p.2.any (longF p.1)) = true then (11, []) else (0, (wss.zip T).map fun p => p.2.map (builtF p.1))) := by show _ = _; unfold pBuildM; rw [← her, HX.out.len, HY.out.len]
 by_cases g1 : 64 < n'
 ·have g1' : (64 : Int) < (n' : Int) := by omega
  have HM' : Hid (pBuildM wss T = (12, [])) := by show _ = _; rw [HM.out, if_pos (.inl g1)]
  go_wp2
  go_ret2
  exact RetPar.bad HM'.out hB0
 have g1' : ¬ (64 : Int) < (n' : Int) := by omega
 by_cases g2 : er = 12
 ·have g2' : (er == 12) = true := by simpa using g2
  have HM' : Hid (pBuildM wss T = (12, [])) := by show _ = _; rw [HM.out, if_pos (.inr g2)]
  clear g2 her
  go_wp2
  go_ret2
  exact RetPar.bad HM'.out hB0
 have g2' : (er == 12) = false := by simpa using g2
 by_cases g3 : n' = n
 case neg =>
  have g3' : ((n' : Int) != (n : Int)) = true := by simp; omega
  have HM' : Hid (pBuildM wss T = (2, [])) := by show _ = _; rw [HM.out, if_neg (by simp [g1, g2]), if_pos (.inl g3)]
  clear g2 g3 her
  go_wp2
  go_ret2
  exact RetPar.bad HM'.out hB0
 subst g3
 have g3' : ((n' : Int) != (n' : Int)) = false := by simp
 by_cases g4 : er = 0
 case neg =>
  have g4' : (er != 0) = true := by simpa using g4
  have HM' : Hid (pBuildM wss T = (2, [])) := by show _ = _; rw [HM.out, if_neg (by simp [g1, g2]), if_pos (.inr g4)]
  clear g2 g4 her
  go_wp2
  go_ret2
  exact RetPar.bad HM'.out hB0
 have g4' : (er != 0) = false := by simpa using g4
 have HSH : Hid (shapeE T = 0) := by show _ = _; rw [← her]; exact g4
 replace HM : Hid (pBuildM wss T = if firstE wss ≠ 0 then (firstE wss, []) else if wordsE T ≠ 0 then (wordsE T, [])
  else if (wss.zip T).any (fun p => p.2.any (longF p.1)) = true then (11, []) else (0, (wss.zip T).map fun p => p.2.map (builtF p.1))) := by show _ = _; rw [HM.out, if_neg (by simp [g1, g2]), if_neg (by simp [g4])]
 clear g2 g4 her
 have HB0 := hI hB0
 go_wp2_with fail
 clear g2' g3' g4'
 go_loopw [38] (fun vi wr => ∃ k : Nat, vi = .int .i64 k ∧ k ≤ n' ∧ Hid (firstE wss = firstE (wss.drop k)) ∧ Below w0.heap.size w0 wr) (fun vi _ => n' - (intOf vi).toNat)
 case atStart => exact ⟨0, rfl, Nat.zero_le _, rfl, Below.refl _ _⟩
 case round =>
  obtain ⟨k, rfl, hk, hre, hB⟩ := hrel
  have hBB := HB0.out.trans (hB.mono HB0.out.size)
  by_cases hlt : k < n'
  ·have hk1 : (k : Int) < (n' : Int) := by omega
   obtain ⟨b, off, A1, n1, c1, ws, rfl, hb, hc0, hlk, hws⟩ := (HY.out.below hBB rr).at_ hlt
   have HD := hI (first_drop hlk)
   have HW := hI hws
   clear hlk hws
   go_wp2_with fail
   refine (wCheck_c A1 n1 c1 ws wr HW.out).mono ?_
   obtain ⟨ew, hew⟩ : ∃ ew, ew = wcheck ws := ⟨_, rfl⟩
   rw [← hew] at HD ⊢
   clear hew
   rintro e w3 ⟨rfl, hb3⟩
   have hB3 := hB.trans (hb3.mono hB.size)
   clear hb3 hc0
   by_cases h0 : ew = 0
   ·have h1 : (ew != 0) = false := by simpa using h0
    have HN : Hid (firstE wss = firstE (wss.drop (k + 1))) := by show _ = _; rw [hre.out, HD.out, if_neg (by simpa using h0)]
    clear h0
    go_wp2
    go_roundw
    case rel => exact ⟨k + 1, by go_num, by omega, HN.out, hB3⟩
    case measure => simp [intOf]; omega
   ·have h1 : (ew != 0) = true := by simpa using h0
    have HM' : Hid (pBuildM wss T = (ew, [])) := by
     have h2 : firstE wss = ew := by rw [hre.out, HD.out, if_pos h0]
     show _ = _
     rw [HM.out, h2, if_pos h0]
    clear h0
    go_wp2
    go_ret2
    exact RetPar.bad HM'.out (HB0.out.trans (hB3.mono HB0.out.size))
  have hk1 : ¬ (k : Int) < (n' : Int) := by omega
  have HF0 : Hid (firstE wss = 0) := by show _ = _; rw [hre.out, List.drop_eq_nil_of_le (by rw [HY.out.len]; omega)]; rfl
  clear hre
  go_wp2_with fail
  refine (pWords_c A n' c T wr (HX.out.below hBB rr)).mono ?_
  obtain ⟨er, her⟩ : ∃ er, er = wordsE T := ⟨_, rfl⟩
  rw [← her]
  rintro e w1 ⟨rfl, hb2⟩
  have hB1 := hBB.trans (hb2.mono hBB.size)
  clear hb2 hB hBB
  by_cases h0 : er = 0
  case neg =>
   have h1 : (er != 0) = true := by simpa using h0
   have HM' : Hid (pBuildM wss T = (er, [])) := by show _ = _; rw [HM.out, if_neg (by simp [HF0.out]), ← her, if_pos h0]
   clear h0 her
   go_wp2
   go_ret2
   exact RetPar.bad HM'.out hB1
  have h1 : (er != 0) = false := by simpa using h0
  have HPE : Hid (parE T = 0) := by show _ = _; unfold parE; rw [if_neg (by simp [HSH.out]), ← her]; exact h0
  replace HM : Hid (pBuildM wss T = if (wss.zip T).any (fun p => p.2.any (longF p.1)) = true then (11, []) else (0, (wss.zip T).map fun p => p.2.map (builtF p.1))) := by show _ = _; rw [HM.out, if_neg (by simp [HF0.out]), if_neg (by rw [← her]; simpa using h0)]
  clear h0 her
  have hlT := HX.out.len
  have HLZ : Hid ((wss.zip T).length = n') := by show _ = _; rw [List.length_zip, HX.out.len, HY.out.len, Nat.min_self]
  clear hlT
  have HB1 := hI hB1
  have hmk := fun w => run_make_row' (P := Tryz.prog) 60 62 (.slice none 0 0) 24 Tryz.underlying60 fms_info rfl .i64 .i64 n' (by omega) (by omega) w
  have hnm : n' ≤ maxLen := by unfold maxLen; omega
  go_wp2_with fail
  clear hmk
  rw [made_tabV]
  have kg : (w1.alloc (.cells (tabV n' []) 62)).heap[w1.heap.size]? = some (.cells (tabV n' []) 62 (0, 0)) := hpt
  have kB : Below w1.heap.size w1 (w1.alloc (.cells (tabV n' []) 62)) := bel
  have kz : (w1.alloc (.cells (tabV n' []) 62)).heap.size = w1.heap.size + 1 := by simp
  generalize (w1.alloc (.cells (tabV n' []) 62)) = V0 at *
  obtain ⟨g, eg⟩ : ∃ g, g = w1.heap.size := ⟨_, rfl⟩
  obtain ⟨B0, eB⟩ : ∃ B0, B0 = g + 1 := ⟨_, rfl⟩
  rw [← eg] at kg kz ⊢
  have hgB : w1.heap.size ≤ g := Nat.le_of_eq eg.symm
  have hBB0 : w1.heap.size ≤ B0 := by omega
  have hgB0 : g < B0 := by omega
  have hV0 : B0 ≤ V0.heap.size := by omega
  clear eg kz eB
  have HD0 : Hid (TabD V0 g n' []) := ⟨kg, fun r hr => by cases hr⟩
  have KB := hI kB
  clear kg kB
  go_loopw [58] (fun vi wr => ∃ (i : Nat) (rs : List RowR), vi = .int .i64 i ∧ i ≤ n' ∧ Hid (rs.length = i) ∧ Hid (TabD wr g n' rs) ∧ Hid (rs.map RowR.l = ((wss.zip T).take i).map fun p => p.2.map (builtF p.1)) ∧ Hid (((wss.zip T).take i).any (fun p => p.2.any (longF p.1)) = false) ∧ B0 ≤ wr.heap.size ∧ Below w1.heap.size w1 wr) (fun vi _ => n' - (intOf vi).toNat)
  case atStart => exact ⟨0, [], rfl, Nat.zero_le _, rfl, HD0.out, by simp [Hid], rfl, hV0, KB.out⟩
  case round =>
   obtain ⟨i, rs, rfl, hi, HRI, htd, hdat, hbad, hBr, hB⟩ := hrel
   have hBs := hB.size
   have hBB := HB1.out.trans (hB.mono HB1.out.size)
   by_cases hlt : i < n'
   ·have hi1 : (i : Int) < (n' : Int) := by omega
    obtain ⟨b, off, A1, n1, c1, l, rfl, hb, hc00, hlk, hfl⟩ := HX.out.at_ hlt
    have hc0 := (hBB.cell (p := ⟨b, off + i, none⟩) hb).trans hc00
    clear hc00
    obtain ⟨b9, off9, A9, n9, c9, st, rfl, hb9, hs00, hsk, hsw⟩ := HY.out.at_ hlt
    have HS00 := hI hs00; clear hs00
    have hmem := List.mem_of_getElem? hlk
    have h16 := (shape_len (par_shape HPE.out)).2.1 _ hmem
    rw [hfl.len] at h16
    have HOK : Hid (∀ x ∈ l, wcheck x.2 = 0 ∧ (x.1 = false → x.2 = [])) := fun x hx => ⟨words_all HPE.out hmem hx, ((shape_len (par_shape HPE.out)).2.2 _ hmem).2 x hx⟩
    have hst32 : st.length ≤ 32 := wcheck_len (firstE_all HF0.out st (List.mem_of_getElem? hsk))
    have HF := hI hfl
    have HST := hI hsw
    have HLI : Hid ((wss.zip T)[i]? = some (st, l)) := zip_at hsk hlk
    have HTW0 := hI (htd.out.start (by rw [HRI.out]; exact hlt) hgB0 hBr)
    clear hfl hlk hmem htd hsk hsw
    clear hBs hBB hBr
    go_wp2_with fail
    go_loopw [65] (fun vj wr => ∃ (j : Nat) (fs : List FormR) (v : Value), vj = .int .i64 j ∧ j ≤ n1 ∧ fs.length = j ∧ Hid (TabW wr B0 g n' rs v fs) ∧ Hid (fs.map FormR.data = (l.take j).map (builtF st)) ∧ Hid ((l.take j).any (longF st) = false) ∧ Hid (∃ A c, v = .slice A j c) ∧ Below w1.heap.size w1 wr) (fun vj _ => n1 - (intOf vj).toNat)
    case atStart => exact ⟨0, [], .slice none 0 0, rfl, Nat.zero_le _, rfl, HTW0.out, by simp [Hid], rfl, ⟨_, _, rfl⟩, hB⟩
    case round =>
     obtain ⟨j, fs, v, rfl, hj, hfl, htw, hda2, hba2, hvf, hB2⟩ := hrel
     have hB2s := hB2.size
     have hBB2 := HB1.out.trans (hB2.mono HB1.out.size)
     by_cases hltj : j < n1
     ·have hj1 : (j : Int) < (n1 : Int) := by omega
      obtain ⟨b2, off2, h, A2, n2, c2, ws, rfl, hb2, hd0, hd1, hlj, hwj⟩ := (HF.out.below hBB2 rr).at_ hltj
      obtain ⟨hwc, hnk⟩ := HOK.out _ (List.mem_of_getElem? hlj)
      have hw32 : ws.length ≤ 32 := wcheck_len hwc
      have HNK : Hid (h = false → ws = []) := hnk
      have HLJ := hI hlj
      have hb1 : Below wr.heap.size wr (wr.alloc (.cells #[.bool h, .slice A2 n2 c2] 57)) := bel
      have hbx : (wr.alloc (.cells #[.bool h, .slice A2 n2 c2] 57)).heap[wr.heap.size]? = some (.cells #[.bool h, .slice A2 n2 c2] 57 (0, 0)) := hpt
      have HW := hI (hwj.below hb1 rr)
      have HTW1 := hI (htw.out.below hb1)
      have hnb : v.ownBlock ≠ some wr.heap.size := fun e => by have := (htw.out.cur.own.lt _ e).2; omega
      have hbg : wr.heap.size ≠ g := by have := lt_of_block htw.out.hg; omega
      have hBV := hB2.trans (hb1.mono hB2s)
      have hBBV := HB1.out.trans (hBV.mono HB1.out.size)
      have HSV := hI (HST.out.below hBBV rr)
      have HSC := hI ((hBBV.cell (p := ⟨b9, off9 + i, none⟩) hb9).trans HS00.out)
      have hWW : w1.heap.size ≤ wr.heap.size := hB2s
      clear hlj hwj hwc hnk hB2 hB2s hBB2
      cases h with
      | false =>
       obtain rfl : ws = [] := HNK.out rfl
       obtain rfl : 0 = n2 := HW.out.len
       go_wp2_with fail
       clear hd0 hd1 hb1
       generalize (wr.alloc (.cells #[.bool false, .slice A2 0 c2] 57)) = V1 at *
       obtain ⟨bx, hbxe⟩ : ∃ bx, bx = wr.heap.size := ⟨_, rfl⟩
       rw [← hbxe] at hbx hnb hbg ⊢
       have HBX := hI hbx
       have HNB := hI hnb
       have HAW : Hid (Away v V1 (A2, 0, c2, [])) := ⟨HW.out, fun ad _ h0 => absurd h0 (Nat.lt_irrefl 0)⟩
       have HQG : Hid (∀ ad, A2 = some ad → 0 < 0 → ad.block ≠ g) := fun ad _ h0 => absurd h0 (Nat.lt_irrefl 0)
       have k1 : V1.cell? ⟨g, i, none⟩ = some v := by rw [← HRI.out, ← List.length_map (f := RowR.val)]; exact tabV_at HTW1.out.hg
       have k2 : V1.cell? ⟨bx, 0, none⟩ = some (.bool false) := cell_at_heap hbx rfl
       have k3 : V1.cell? ⟨bx, 1, none⟩ = some (.slice A2 0 c2) := cell_at_heap hbx rfl
       have HDN : Hid ((fs ++ [(⟨false, (A2, 0, c2, [])⟩ : FormR)]).map FormR.data = (l.take (j + 1)).map (builtF st)) := by show _ = _; rw [take_snoc' l j _ HLJ.out, List.map_append, List.map_append, hda2.out]; rfl
       have HBN : Hid ((l.take (j + 1)).any (longF st) = false) := any_snoc HLJ.out hba2.out rfl
       clear hbx hnb hbxe
       refine plain_region (fun W' => W'.cell? ⟨g, i, none⟩ = some v ∧ W'.cell? ⟨bx, 0, none⟩ = some (.bool false) ∧ W'.cell? ⟨bx, 1, none⟩ = some (.slice A2 0 c2)) (by kernel_rfl) ⟨k1, k2, k3⟩ (fun hHeld => ?_)
       (refine' anyT_tk 0 rfl ?_; (try simp only [Act.put, nY, nX])); (refine' anyT_tk 1 rfl ?_; (try simp only [Act.put, nY, nX])); (refine' anyT_tk 2 rfl ?_; (try simp only [Act.put, nY, nX])); (refine' anyT_tk 3 rfl ?_; (try simp only [Act.put, nY, nX])); (refine' anyT_tk 4 rfl ?_; (try simp only [Act.put, nY, nX])); (refine' anyT_tk 5 rfl ?_; (try simp only [Act.put, nY, nX])); (refine' anyT_tk 6 rfl ?_; (try simp only [Act.put, nY, nX]))
       (refine anyT_sp 7 rfl (fun K' hK' => ?_); simp only [nY]; go_simp)
       have hb6 : Below V1.heap.size V1 (V1.alloc (.cells #[.bool false, .slice A2 0 c2] 57)).drew := ((Below.refl V1.heap.size V1).alloc rr _).drew
       have hz6 : (V1.alloc (.cells #[.bool false, .slice A2 0 c2] 57)).drew.heap[V1.heap.size]? = some (.cells #[.bool false, .slice A2 0 c2] 57 (0, 0)) := heap_new_at rfl
       have hTW6 := HTW1.out.below hb6
       have hx6 := (hb6.block bx (lt_of_block HBX.out)).trans HBX.out
       refine hK' _ _ ⟨.inr ⟨by rw [← HRI.out, ← List.length_map (f := RowR.val)]; exact tabV_at hTW6.hg, cell_at_heap hx6 rfl, cell_at_heap hx6 rfl⟩, fun _ => ?_⟩
       clear hK' K' hHeld k1 k2 k3
       (try simp only [Act.put, nY, nX])
       have hB6 := hBV.trans (hb6.mono hBV.size)
       have HTW6 := hI hTW6
       have HAW6 := hI (HAW.out.below hb6)
       clear hTW6 hb6
       generalize (V1.alloc (.cells #[.bool false, .slice A2 0 c2] 57)).drew = V6 at *
       refine anyT_sp 8 rfl (fun K' hK' => ?_)
       rw [if_pos (by rfl)]
       refine wp_append_own_at (.tmp 89) (.tmp 91) 62 rfl B0 57 (.agg #[.bool false, .slice none 0 0]) 2 32 Tryz.underlying62 form_info rfl (by decide) v fs.length (fs.flatMap FormR.cells) (by rfl) HTW6.out.cur.own ⟨V1.heap.size, 0, none⟩ 1 1 (FormR.cells ⟨false, (A2, 0, c2, [])⟩) (by rfl) rfl (form_cells (f := ⟨false, (A2, 0, c2, [])⟩) hz6) form_one (by unfold maxLen; omega) (by omega) HTW6.out.cur.sz ?_
       intro v7 X7 hown7 hg7 _ hat7
       have hgn : some g ≠ v.ownBlock := fun e => by have := (HTW6.out.cur.own.lt g e.symm).1; have := HTW6.out.lt; omega
       have hxg := (hg7.block g (lt_of_block HTW6.out.hg) hgn).trans HTW6.out.hg
       have hx7 := (hg7.block bx (lt_of_block hx6) (Ne.symm HNB.out)).trans hx6
       have hP7 := HTW6.out.push (q := ⟨false, (A2, 0, c2, [])⟩) HAW6.out HQG.out hown7 hg7 hat7
       rw [HRI.out] at hP7
       have HP7 := hI hP7
       have m1 : X7.cell? ⟨g, i, none⟩ = some v := by rw [← HRI.out, ← List.length_map (f := RowR.val)]; exact tabV_at hxg
       have m2 : X7.frozen? ⟨g, i, none⟩ = false := frozen_of_row X7 g i _ _ hxg
       have hB7 : Below w1.heap.size w1 (X7.setCell ⟨g, i, none⟩ v7) := (hB6.trans (own_below (Below.refl _ _) HTW6.out.cur.own hg7 hBB0 hB6.size)).setCell (p := ⟨g, i, none⟩) hgB _
       have hL7 := own_form hown7
       have hS7 : X7.cell? ⟨g, i, none⟩ = some v ∧ X7.cell? ⟨bx, 0, none⟩ = some (.bool false) ∧ X7.cell? ⟨bx, 1, none⟩ = some (.slice A2 0 c2) := ⟨m1, cell_at_heap hx7 rfl, cell_at_heap hx7 rfl⟩
       refine hK' _ _ ⟨.inr hS7, fun _ => ?_⟩
       clear hK' K' hown7 hg7 hat7 hgn hxg hP7 hx6 hx7 hz6
       obtain ⟨A7, c7, rfl⟩ := hL7
       (try simp only [Act.put, nY, nX])
       (refine' anyT_tk 9 rfl ?_; (try simp only [Act.put, nY, nX]))
       (refine anyT_sp 10 rfl (fun K' hK' => ?_); simp only [nY]; go_simp)
       clear hS7
       refine hK' _ _ ⟨.inl (by kernel_rfl), fun _ => anyT_done (by kernel_rfl) ?_ _⟩
       clear hK' K' m1 m2
       rw [hfl] at HP7 hB7
       generalize (X7.setCell ⟨g, i, none⟩ (.slice A7 (j + 1) c7)) = Y at *
       go_wp2
       go_roundw
       case rel => exact ⟨j + 1, _, .slice A7 (j + 1) c7, by go_num, by omega, by rw [List.length_append, hfl]; rfl, HP7.out, HDN.out, HBN.out, ⟨_, _, rfl⟩, hB7⟩
       case measure => simp [intOf]; omega
      | true =>
       go_wp2_with fail
       clear hd0 hd1
       generalize (wr.alloc (.cells #[.bool true, .slice A2 n2 c2] 57)) = V1 at *
       obtain ⟨bx, hbxe⟩ : ∃ bx, bx = wr.heap.size := ⟨_, rfl⟩
       rw [← hbxe] at hbx hnb hbg ⊢
       have hbxw : wr.heap.size ≤ bx := Nat.le_of_eq hbxe.symm
       have hbxV := lt_of_block hbx
       have hgV : g < V1.heap.size := lt_of_block HTW1.out.hg
       have HBX1 := hI hbx
       have HNB := hI hnb
       have e3 : V1.cell? ⟨bx, 1, none⟩ = some (.slice A2 n2 c2) := cell_at_heap hbx rfl
       have e4 := HSC.out
       clear hbx hnb hbxe
       refine plain_region (fun W' => W'.cell? ⟨b9, off9 + i, none⟩ = some (.slice A9 n9 c9) ∧ W'.cell? ⟨bx, 1, none⟩ = some (.slice A2 n2 c2)) (by kernel_rfl) ⟨e4, e3⟩ (fun hHeld => ?_)
       (refine' anyT_tk 0 rfl ?_; (try simp only [Act.put, nY, nX])); (refine' anyT_tk 1 rfl ?_; (try simp only [Act.put, nY, nX])); (refine' anyT_tk 2 rfl ?_; (try simp only [Act.put, nY, nX])); (refine' anyT_tk 3 rfl ?_; (try simp only [Act.put, nY, nX])); (refine' anyT_tk 4 rfl ?_; (try simp only [Act.put, nY, nX])); (refine' anyT_tk 5 rfl ?_; (try simp only [Act.put, nY, nX]))
       (refine anyT_sp 6 rfl (fun K' hK' => ?_); simp only [nY]; go_simp)
       have hb6 : Below V1.heap.size V1 (V1.alloc (.cells #[.slice A9 n9 c9, .slice A2 n2 c2] 32)).drew := ((Below.refl V1.heap.size V1).alloc rr _).drew
       have hz6 : (V1.alloc (.cells #[.slice A9 n9 c9, .slice A2 n2 c2] 32)).drew.heap[V1.heap.size]? = some (.cells #[.slice A9 n9 c9, .slice A2 n2 c2] 32 (0, 0)) := heap_new_at rfl
       have hx6 := (hb6.block bx hbxV).trans HBX1.out
       have hS6 : (V1.alloc (.cells #[.slice A9 n9 c9, .slice A2 n2 c2] 32)).drew.cell? ⟨b9, off9 + i, none⟩ = some (.slice A9 n9 c9) ∧ (V1.alloc (.cells #[.slice A9 n9 c9, .slice A2 n2 c2] 32)).drew.cell? ⟨bx, 1, none⟩ = some (.slice A2 n2 c2) := ⟨(hb6.cell (p := ⟨b9, off9 + i, none⟩) (by have := hBBV.size; show b9 < V1.heap.size; omega)).trans HSC.out, cell_at_heap hx6 rfl⟩
       refine hK' _ _ ⟨.inr hS6, fun _ => ?_⟩
       clear hK' K' hHeld e3 e4 hx6
       (try simp only [Act.put, nY, nX])
       generalize (V1.alloc (.cells #[.slice A9 n9 c9, .slice A2 n2 c2] 32)).drew = V6 at *
       (refine anyT_sp 7 rfl (fun K' hK' => ?_); simp only [nY]; go_simp)
       refine (concatSnd_c (some ⟨V1.heap.size, 0, none⟩) 2 2 [(A9, n9, c9, st), (A2, n2, c2, ws)] V6 ?hc ?hp ?hb).mono ?_
       case hc => exact ⟨rfl, rr, by unfold maxLen; omega, (fun h => by cases h), fun _ => ⟨V1.heap.size, 0, rfl, lt_of_block hz6, fun j v hv => by rw [Nat.zero_add]; exact cell_at_heap hz6 (by simpa [Part.val] using hv)⟩⟩
       case hp =>
        intro p hp
        simp only [List.mem_cons, List.not_mem_nil, or_false] at hp
        rcases hp with rfl | rfl
        ·exact HSV.out.below hb6 rr
        ·exact HW.out.below hb6 rr
       case hb => simp [catW, Part.word]; omega
       rintro e w5 ⟨A5, n5, c5, rfl, hw5', hb5', hf5'⟩
       have hw5 : IsWord w5 A5 n5 c5 (st ++ ws) := by have := hw5'; simp only [catW, Part.word, List.flatMap_cons, List.flatMap_nil, List.append_nil] at this; exact this
       have hb5 : Below V1.heap.size V1 w5 := hb6.trans (hb5'.mono hb6.size)
       have hf5 : ∀ ad, A5 = some ad → V1.heap.size ≤ ad.block := fun ad had => Nat.le_trans hb6.size (hf5' ad had)
       have hx5 := (hb5.block bx hbxV).trans HBX1.out
       have e0 : w5.cell? ⟨bx, 1, none⟩ = some (.slice A2 n2 c2) := cell_at_heap hx5 rfl
       have e1 : w5.frozen? ⟨bx, 1, none⟩ = false := frozen_of_row w5 bx 1 _ _ hx5
       have hS5 : w5.cell? ⟨b9, off9 + i, none⟩ = some (.slice A9 n9 c9) ∧ w5.cell? ⟨bx, 1, none⟩ = some (.slice A2 n2 c2) := ⟨(hb5.cell (p := ⟨b9, off9 + i, none⟩) (by have := hBBV.size; show b9 < V1.heap.size; omega)).trans HSC.out, e0⟩
       refine hK' _ _ ⟨.inr hS5, fun _ => ?_⟩
       clear hK' K' hS6 hz6 hb6 hw5' hb5' hf5'
       (try simp only [Act.put, nY, nX])
       (refine' anyT_tk 8 rfl ?_; (try simp only [Act.put, nY, nX]))
       (refine anyT_sp 9 rfl (fun K' hK' => ?_); simp only [nY]; go_simp)
       refine hK' _ _ ⟨.inl (by kernel_rfl), fun _ => anyT_done (by kernel_rfl) ?_ _⟩
       clear hK' K' hS5
       have hB5 := hBV.trans (hb5.mono hBV.size)
       have hbw5 : Below wr.heap.size wr (w5.setCell ⟨bx, 1, none⟩ (.slice A5 n5 c5)) := (hb1.trans (hb5.mono hb1.size)).setCell (p := ⟨bx, 1, none⟩) hbxw _
       have hbx6 : (w5.setCell ⟨bx, 1, none⟩ (.slice A5 n5 c5)).heap[bx]? = some (.cells #[.bool true, .slice A5 n5 c5] 57 (0, 0)) := heap_setCell_same hx5
       have HTW5 := hI (htw.out.below hbw5)
       have hkx : Keep (fun k => k = bx) w5 (w5.setCell ⟨bx, 1, none⟩ (.slice A5 n5 c5)) := (Keep.refl (fun k => k = bx) w5).setCell (p := ⟨bx, 1, none⟩) rfl _
       have HAW : Hid (Away v (w5.setCell ⟨bx, 1, none⟩ (.slice A5 n5 c5)) (A5, n5, c5, st ++ ws)) := ⟨hw5.keep hkx fun _ ad had e => by have := hf5 ad had; omega, fun ad had _ e => by have := (htw.out.cur.own.lt _ e).2; have := hf5 ad had; omega⟩
       have HQG : Hid (∀ ad, A5 = some ad → 0 < n5 → ad.block ≠ g) := fun ad had _ e => by have := hf5 ad had; omega
       have hBW : Below w1.heap.size w1 (w5.setCell ⟨bx, 1, none⟩ (.slice A5 n5 c5)) := hB5.setCell (p := ⟨bx, 1, none⟩) (by simp; omega) _
       have HDN : Hid ((fs ++ [(⟨true, (A5, n5, c5, st ++ ws)⟩ : FormR)]).map FormR.data = (l.take (j + 1)).map (builtF st)) := by show _ = _; rw [take_snoc' l j _ HLJ.out, List.map_append, List.map_append, hda2.out]; rfl
       have hlen : (st ++ ws).length = n5 := hw5.len
       have HLONG : Hid (longF st (true, ws) = decide (32 < n5)) := by show decide (32 < (st ++ ws).length) = _; rw [hlen]
       clear hlen hw5 hf5 hkx hb5 hBV hB5 e0 e1 hx5 hbw5
       generalize (w5.setCell ⟨bx, 1, none⟩ (.slice A5 n5 c5)) = W5 at *
       have HBX := hI hbx6
       have k2 : W5.cell? ⟨bx, 0, none⟩ = some (.bool true) := cell_at_heap hbx6 rfl
       have k3 : W5.cell? ⟨bx, 1, none⟩ = some (.slice A5 n5 c5) := cell_at_heap hbx6 rfl
       by_cases h32 : 32 < n5
       ·have h32' : (32 : Int) < (n5 : Int) := by omega
        have HM' : Hid (pBuildM wss T = (11, [])) := by
         show _ = _
         rw [HM.out, if_pos (any_at HLI.out (any_at HLJ.out (by rw [HLONG.out]; exact decide_eq_true h32)))]
        clear hbx6
        go_wp2
        go_ret2
        exact RetPar.bad HM'.out (HB1.out.trans (hBW.mono HB1.out.size))
       have h32' : ¬ (32 : Int) < (n5 : Int) := by omega
       have HBN : Hid ((l.take (j + 1)).any (longF st) = false) := any_snoc HLJ.out hba2.out (by rw [HLONG.out]; exact decide_eq_false h32)
       have hBV := hBW
       have k1 : W5.cell? ⟨g, i, none⟩ = some v := by rw [← HRI.out, ← List.length_map (f := RowR.val)]; exact tabV_at HTW5.out.hg
       clear hbx6
       go_wp2_with fail
       refine plain_region (fun W' => W'.cell? ⟨g, i, none⟩ = some v ∧ W'.cell? ⟨bx, 0, none⟩ = some (.bool true) ∧ W'.cell? ⟨bx, 1, none⟩ = some (.slice A5 n5 c5)) (by kernel_rfl) ⟨k1, k2, k3⟩ (fun hHeld => ?_)
       (refine' anyT_tk 0 rfl ?_; (try simp only [Act.put, nY, nX])); (refine' anyT_tk 1 rfl ?_; (try simp only [Act.put, nY, nX])); (refine' anyT_tk 2 rfl ?_; (try simp only [Act.put, nY, nX])); (refine' anyT_tk 3 rfl ?_; (try simp only [Act.put, nY, nX])); (refine' anyT_tk 4 rfl ?_; (try simp only [Act.put, nY, nX])); (refine' anyT_tk 5 rfl ?_; (try simp only [Act.put, nY, nX])); (refine' anyT_tk 6 rfl ?_; (try simp only [Act.put, nY, nX]))
       (refine anyT_sp 7 rfl (fun K' hK' => ?_); simp only [nY]; go_simp)
       have hb6 : Below W5.heap.size W5 (W5.alloc (.cells #[.bool true, .slice A5 n5 c5] 57)).drew := ((Below.refl W5.heap.size W5).alloc rr _).drew
       have hz6 : (W5.alloc (.cells #[.bool true, .slice A5 n5 c5] 57)).drew.heap[W5.heap.size]? = some (.cells #[.bool true, .slice A5 n5 c5] 57 (0, 0)) := heap_new_at rfl
       have hTW6 := HTW5.out.below hb6
       have hx6 := (hb6.block bx (lt_of_block HBX.out)).trans HBX.out
       refine hK' _ _ ⟨.inr ⟨by rw [← HRI.out, ← List.length_map (f := RowR.val)]; exact tabV_at hTW6.hg, cell_at_heap hx6 rfl, cell_at_heap hx6 rfl⟩, fun _ => ?_⟩
       clear hK' K' hHeld k1 k2 k3
       (try simp only [Act.put, nY, nX])
       have hB6 := hBV.trans (hb6.mono hBV.size)
       have HTW6 := hI hTW6
       have HAW6 := hI (HAW.out.below hb6)
       clear hTW6 hb6
       generalize (W5.alloc (.cells #[.bool true, .slice A5 n5 c5] 57)).drew = V6 at *
       refine anyT_sp 8 rfl (fun K' hK' => ?_)
       rw [if_pos (by rfl)]
       refine wp_append_own_at (.tmp 89) (.tmp 91) 62 rfl B0 57 (.agg #[.bool false, .slice none 0 0]) 2 32 Tryz.underlying62 form_info rfl (by decide) v fs.length (fs.flatMap FormR.cells) (by rfl) HTW6.out.cur.own ⟨W5.heap.size, 0, none⟩ 1 1 (FormR.cells ⟨true, (A5, n5, c5, st ++ ws)⟩) (by rfl) rfl (form_cells (f := ⟨true, (A5, n5, c5, st ++ ws)⟩) hz6) form_one (by unfold maxLen; omega) (by omega) HTW6.out.cur.sz ?_
       intro v7 X7 hown7 hg7 _ hat7
       have hgn : some g ≠ v.ownBlock := fun e => by have := (HTW6.out.cur.own.lt g e.symm).1; have := HTW6.out.lt; omega
       have hxg := (hg7.block g (lt_of_block HTW6.out.hg) hgn).trans HTW6.out.hg
       have hx7 := (hg7.block bx (lt_of_block hx6) (Ne.symm HNB.out)).trans hx6
       have hP7 := HTW6.out.push (q := ⟨true, (A5, n5, c5, st ++ ws)⟩) HAW6.out HQG.out hown7 hg7 hat7
       rw [HRI.out] at hP7
       have HP7 := hI hP7
       have m1 : X7.cell? ⟨g, i, none⟩ = some v := by rw [← HRI.out, ← List.length_map (f := RowR.val)]; exact tabV_at hxg
       have m2 : X7.frozen? ⟨g, i, none⟩ = false := frozen_of_row X7 g i _ _ hxg
       have hB7 : Below w1.heap.size w1 (X7.setCell ⟨g, i, none⟩ v7) := (hB6.trans (own_below (Below.refl _ _) HTW6.out.cur.own hg7 hBB0 hB6.size)).setCell (p := ⟨g, i, none⟩) hgB _
       have hL7 := own_form hown7
       have hS7 : X7.cell? ⟨g, i, none⟩ = some v ∧ X7.cell? ⟨bx, 0, none⟩ = some (.bool true) ∧ X7.cell? ⟨bx, 1, none⟩ = some (.slice A5 n5 c5) := ⟨m1, cell_at_heap hx7 rfl, cell_at_heap hx7 rfl⟩
       refine hK' _ _ ⟨.inr hS7, fun _ => ?_⟩
       clear hK' K' hown7 hg7 hat7 hgn hxg hP7 hx6 hx7 hz6
       obtain ⟨A7, c7, rfl⟩ := hL7
       (try simp only [Act.put, nY, nX])
       (refine' anyT_tk 9 rfl ?_; (try simp only [Act.put, nY, nX]))
       (refine anyT_sp 10 rfl (fun K' hK' => ?_); simp only [nY]; go_simp)
       clear hS7
       refine hK' _ _ ⟨.inl (by kernel_rfl), fun _ => anyT_done (by kernel_rfl) ?_ _⟩
       clear hK' K' m1 m2
       rw [hfl] at HP7 hB7
       generalize (X7.setCell ⟨g, i, none⟩ (.slice A7 (j + 1) c7)) = Y at *
       go_wp2
       go_roundw
       case rel => exact ⟨j + 1, _, .slice A7 (j + 1) c7, by go_num, by omega, by rw [List.length_append, hfl]; rfl, HP7.out, HDN.out, HBN.out, ⟨_, _, rfl⟩, hB7⟩
       case measure => simp [intOf]; omega
     ·have hj1 : ¬ ((j : Int) < (n1 : Int)) := by omega
      have hjn : j = n1 := by omega
      obtain ⟨Av, cv, hvv⟩ := hvf.out
      subst hvv
      have HDN := hI (htw.out.done (by omega))
      have HBZ := htw.out.cur.sz
      have HDF : Hid (fs.map FormR.data = l.map (builtF st)) := by show _ = _; rw [hda2.out, List.take_of_length_le (by rw [HF.out.len]; omega)]
      have HN1 : Hid ((rs ++ [(⟨Av, j, cv, fs.map FormR.data⟩ : RowR)]).map RowR.l = ((wss.zip T).take (i + 1)).map fun p => p.2.map (builtF p.1)) := by
       show _ = _
       rw [take_snoc' (wss.zip T) i _ HLI.out, List.map_append, List.map_append, hdat.out, HDF.out]; rfl
      have HN2 : Hid (((wss.zip T).take (i + 1)).any (fun p => p.2.any (longF p.1)) = false) := any_snoc HLI.out hbad.out (by
       have := hba2.out
       rwa [List.take_of_length_le (by rw [HF.out.len]; omega)] at this)
      clear htw hjn
      go_wp2
      go_roundw
      case rel => exact ⟨i + 1, _, by go_num, by omega, by show _ = _; rw [List.length_append, HRI.out]; rfl, HDN.out, HN1.out, HN2.out, HBZ, hB2⟩
      case measure => simp [intOf]; omega
   ·have hi1 : ¬ ((i : Int) < (n' : Int)) := by omega
    have HD : Hid (rs.map RowR.l = (wss.zip T).map fun p => p.2.map (builtF p.1)) := by show _ = _; rw [hdat.out, List.take_of_length_le (by rw [HLZ.out]; omega)]
    have HM' : Hid (pBuildM wss T = (0, (wss.zip T).map fun p => p.2.map (builtF p.1))) := by
     have := hbad.out
     rw [List.take_of_length_le (by rw [HLZ.out]; omega)] at this
     show _ = _
     rw [HM.out, if_neg (by rw [this]; decide)]
    have hp := htd.out.par (by rw [HRI.out]; omega) hnm
    rw [HD.out] at hp
    have HP := hI hp; clear hp
    go_wp2
    go_ret2
    exact ⟨some ⟨g, 0, none⟩, n', n', by rw [HM'.out]; rfl, by rw [HM'.out]; exact HP.out, hBB⟩
end Go.Proofs.YtlgliddhideflaaGreatDoor

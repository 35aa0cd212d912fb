/-
  ablautref10: Used, Without.
-/
import Derived.Test.YtfgilinjaldhhaaGreatDoorXR10g
import Derived.Test.YtfgilinjaldhhaaGreatDoorXCountsL
import Derived.Test.YtfgilinjaldhhaaGreatDoorXConcL
import Derived.Test.YtfgilinjaldhhaaGreatDoorXIdleL
import Derived.Test.YtfgilinjaldhhaaGreatDoorG17
set_option linter.unusedVariables false
set_option linter.unusedSimpArgs false
set_option maxRecDepth 100000
set_option maxHeartbeats 4000000
namespace Go.Proofs.YtfgilinjaldhhaaGreatDoor
open Go.RowKit Go.Shelf
theorem steps_lt2 {fs : List (List Snd)} {n k : Nat} {s : Nat × List Snd × List Snd} (h : (stepsL fs n)[k]? = some s) : s.1 < n := by
 obtain ⟨i, hi, hs⟩ := List.mem_flatMap.1 (List.mem_of_getElem? h)
 have := List.mem_range.1 hi
 unfold stepAt at hs
 split at hs
 ·simp at hs
 ·obtain rfl : s = _ := by simpa using hs
  exact this
theorem r10Used_c (A : Option Addr) (n c : Nat) (xs : List LawR) (A' : Option Addr) (n' c' : Nat) (wss : List (List Snd)) (w : World) (hx : IsLaws w A n c xs) (hw : IsWords w A' n' c' wss) (hu : LawsU xs) (hwu : ∀ x ∈ wss, WordU x) :
  Calls Tryz.prog 30 #[.slice A n c, .slice A' n' c'] w (RetNsE w (usedM (lawsD xs) wss)) := by
 have hmx := hx.max
 have hmw := hw.max
 have HX := hI hx; clear hx
 have HW := hI hw; clear hw
 have HU := hI hu; clear hu
 have HWU := hI hwu; clear hwu
 have HLN : Hid ((lawsD xs).length = n) := by show (lawsD xs).length = n; rw [lawsD, List.length_map]; exact HX.out.len
 go_enter Tryz.func30, Tryz.ntmps30
 go_wp2_with fail
 refine (r10Pairs_c A n c xs A' n' c' wss w HX.out HW.out HU.out HWU.out).mono ?_
 rintro e w4 ⟨A4, n4, c4, ss, rfl, hss, hp4, hB4⟩
 have HB4 := hI hB4; clear hB4
 rcases counts_cases (lawsD xs) wss with ⟨er, her, hu, hp⟩ | ⟨hl0, hl64, hw256, hu, hp, hall⟩
 ·have h1 : (er != 0) = true := by simpa using her
  have HM := hI hu; clear hu
  rw [hp] at hss ⊢
  clear hss hp her hp4
  go_wp2
  go_ret2
  exact ⟨none, 0, 0, by rw [HM.out]; rfl, by rw [HM.out]; exact Cells.nil _ _, HB4.out⟩
 have HM := hI hu; clear hu
 rw [hp]
 rw [HLN.out] at hl64
 rw [HW.out.len] at hw256
 have HALL := hI hall; clear hall
 have HL0 := hI hl0; clear hl0
 clear hss hp hp4
 have hmk := fun w => run_make_row' (P := Tryz.prog) 55 3 (.int .i64 0) 8 Tryz.underlying55 int_info rfl .i64 .i64 n (by omega) (by omega) w
 go_wp2
 clear hmk
 rw [made_cnt]
 have kg : (w4.alloc (.cells (cntC (List.replicate n 0)) 3)).heap[w4.heap.size]? = some (.cells (cntC (List.replicate n 0)) 3 (0, 0)) := hpt
 have kB : Below w4.heap.size w4 (w4.alloc (.cells (cntC (List.replicate n 0)) 3)) := bel
 generalize (w4.alloc (.cells (cntC (List.replicate n 0)) 3)) = V0 at *
 obtain ⟨g, eg⟩ : ∃ g, g = w4.heap.size := ⟨_, rfl⟩
 have HBL : Hid (∀ W, Below w4.heap.size w4 W → Below w.heap.size w W) := fun W hW => HB4.out.trans (hW.mono HB4.out.size)
 rw [← eg] at kg ⊢
 have heg : w4.heap.size ≤ g := Nat.le_of_eq eg.symm
 clear eg
 have KG := hI kg; clear kg
 have KB := hI kB; clear kB
 go_loopw [9] (fun vi wr => ∃ (i : Nat) (cnt : List Int), vi = .int .i64 i ∧ i ≤ n' ∧ Hid (cnt = bumps (lawsD xs) (wss.take i) (List.replicate n 0)) ∧ Hid (∀ c ∈ cnt, 0 ≤ c ∧ c ≤ ((i * 64 : Nat) : Int)) ∧ Hid (wr.heap[g]? = some (.cells (cntC cnt) 3 (0, 0))) ∧ Below w4.heap.size w4 wr) (fun vi _ => n' - (intOf vi).toNat)
 case atStart => exact ⟨0, List.replicate n 0, rfl, Nat.zero_le _, rfl, fun c hc => by have := List.eq_of_mem_replicate hc; omega, KG.out, KB.out⟩
 case round =>
  obtain ⟨i, cnt, rfl, hi, hcnt, hbd, hg, hB⟩ := hrel
  have hBs := hB.size
  have hBB := HBL.out _ hB
  by_cases hlt : i < n'
  ·obtain ⟨b, off, Aw, nw, cw, ws, rfl, hb, hcw, hwk, hws⟩ := (HW.out.below hBB rr).at_ hlt
   have hmem := List.mem_of_getElem? hwk
   have HWU1 : Hid (WordU ws) := HWU.out ws hmem
   have hgood := HALL.out ws hmem
   have HWK := hI hwk; clear hwk
   have HWS := hI hws; clear hws hmem
   obtain ⟨hst, hdr, hfl⟩ := word_good HL0.out hgood.1 hgood.2
   rw [HLN.out] at hst hfl
   obtain ⟨fs, hfs⟩ : ∃ fs, fs = (formsM (lawsD xs) ws).2 := ⟨_, rfl⟩
   rw [← hfs] at hst hfl
   have HFS := hI hfs; clear hfs
   have HFL := hI hfl; clear hfl
   have HST := hI hst; clear hst hdr hgood
   have hi1 : (i : Int) < (n' : Int) := by omega
   go_wp2_with fail
   refine (r10Steps_c A n c xs Aw nw cw ws wr (HX.out.below hBB rr) HWS.out HU.out HWU1.out).mono ?_
   rw [HST.out]
   rintro e w8 ⟨A5, n5, c5, sr, rfl, hsr, hst5, hb5, hf5⟩
   have HSR : Hid (sr.map StepR.data = stepsL fs n) := hsr
   clear hsr
   have HST8 := hI hst5; clear hst5
   have HF5 := hI hf5; clear hf5
   have hb5s := hb5.size
   have hB8 : Below w4.heap.size w4 w8 := hB.trans (hb5.mono hBs)
   have HG8 : Hid (w8.heap[g]? = some (.cells (cntC cnt) 3 (0, 0))) := (hb5.block g (lt_of_block hg.out)).trans hg.out
   have hgr := lt_of_block hg.out
   have hn5 : sr.length = n5 := HST8.out.1.2
   have hsl : sr.length ≤ n := by have h1 := stepsL_len fs n; have h2 := congrArg List.length HSR.out; rw [List.length_map] at h2; omega
   have hn5' : n5 ≤ n := by omega
   have HCL : Hid (cnt.length = n) := by show cnt.length = n; rw [hcnt.out, bumps_len, List.length_replicate]
   have HN5 := hI hn5; clear hn5 hsl hcw hb5
   obtain ⟨wo, hwo⟩ : ∃ wo, wo = wr := ⟨_, rfl⟩
   subst hwo
   go_wp2
   go_loopw [12] (fun vk wr => ∃ (k : Nat) (cn : List Int), vk = .int .i64 k ∧ k ≤ n5 ∧ Hid (cn = incs cnt ((stepsL fs n).take k)) ∧ Hid (∀ c ∈ cn, 0 ≤ c ∧ c ≤ ((i * 64 + k : Nat) : Int)) ∧ Hid (wr.heap[g]? = some (.cells (cntC cn) 3 (0, 0))) ∧ Hid (Keep (fun b => b = g) w8 wr)) (fun vk _ => n5 - (intOf vk).toNat)
   case atStart => exact ⟨0, cnt, rfl, Nat.zero_le _, rfl, hbd.out, HG8.out, Keep.refl _ _⟩
   case round =>
    obtain ⟨k, cn, rfl, hk, hcn, hcb, hgk, hK⟩ := hrel
    by_cases hkl : k < n5
    ·obtain ⟨s, hs⟩ : ∃ s, sr[k]? = some s := ⟨sr[k]'(by rw [HN5.out]; exact hkl), List.getElem?_eq_getElem _⟩
     have hdat : (stepsL fs n)[k]? = some s.data := by rw [← HSR.out, List.getElem?_map, hs]; rfl
     obtain ⟨bs, os, hA5, hbs, hc5⟩ := HST8.out.1.at_ StepR.len (by decide) hs
     have hcs0 : w8.cell? ⟨bs, os + k * 3, none⟩ = some (.int .i64 s.k) := hc5 0 _ rfl
     have hsk : s.k < n := steps_lt2 hdat
     have hbsg : bs ≠ g := by
      have h1 := HF5.out _ hA5
      have h1' : wo.heap.size ≤ bs := h1
      omega
     have hcs : wr.cell? ⟨bs, os + k * 3, none⟩ = some (.int .i64 s.k) := (World.cell?_of_block (hK.out.block bs hbs hbsg)).trans hcs0
     have HSN : Hid (incs cnt ((stepsL fs n).take (k + 1)) = incAt cn s.k) := by
      show _ = _
      rw [take_snoc' _ k _ hdat, incs_snoc, hcn.out]; rfl
     clear hs hdat hcs0 hbs hc5
     obtain ⟨sk, p, q⟩ := s
     have hsk' : sk < n := hsk
     have hcs' : wr.cell? ⟨bs, os + k * 3, none⟩ = some (.int .i64 sk) := hcs
     have HSN' : Hid (incs cnt ((stepsL fs n).take (k + 1)) = incAt cn sk) := HSN
     have hlcn : cn.length = n := by rw [hcn.out, incs_len]; exact HCL.out
     obtain ⟨v, hv⟩ : ∃ v, cn[sk]? = some v := ⟨cn[sk]'(by rw [hlcn]; exact hsk'), List.getElem?_eq_getElem _⟩
     have hvb := hcb.out v (List.mem_of_getElem? hv)
     have hcv := cntC_get hgk.out hv
     have hfv := frozen_of_row wr g sk _ _ hgk.out
     have HINC : Hid (incAt cn sk = cn.set sk (v + 1)) := by show _ = _; unfold incAt; rw [getD_of hv]
     clear hsk hcs HSN hv hlcn
     subst hA5
     have hk1 : (k : Int) < (n5 : Int) := by omega
     have hs1 : (sk : Int) < (n : Int) := by omega
     have hv0 : 0 ≤ v := hvb.1
     have hv1 : v ≤ 20000 := by have := hvb.2; omega
     clear hvb
     go_wp2
     have t1 : (wr.setCell ⟨g, sk, none⟩ (.int .i64 (v + 1))).heap[g]? = some (.cells (cntC (incAt cn sk)) 3 (0, 0)) := by
      rw [HINC.out, ← cntC_set]; exact heap_setCell_same hgk.out
     have tK := hK.out.setCell (p := ⟨g, sk, none⟩) rfl (.int .i64 (v + 1))
     go_roundw
     case rel => exact ⟨k + 1, incAt cn sk, by go_num, by omega, HSN'.out.symm, fun c hc => by have := incAt_bound hcb.out c hc; omega, t1, tK⟩
     case measure => simp [intOf]; omega
    ·obtain rfl : k = n5 := by omega
     have hcn' : cn = bumps (lawsD xs) (wss.take (i + 1)) (List.replicate n 0) := by
      have h1 := hcn.out
      rw [List.take_of_length_le (by rw [← HSR.out, List.length_map, HN5.out]; exact rr), incs_steps n (by rw [HFL.out]; omega) (by rw [HCL.out]; exact rr)] at h1
      rw [h1, take_snoc' wss i _ HWK.out, bumps_snoc, ← hcnt.out, ← HFS.out, HFL.out]
     have HCN := hI hcn'; clear hcn'
     have hB9 : Below w4.heap.size w4 wr := hB8.trans (hK.out.to_below (fun b hb => by have hb' : b = g := hb; omega) hB8.size)
     go_wp2
     go_roundw
     case rel => exact ⟨i + 1, cn, by go_num, by omega, HCN.out, fun c hc => by have := hcb.out c hc; omega, hgk.out, hB9⟩
     case measure => simp [intOf]; omega
  ·obtain rfl : i = n' := by omega
   have hfin : cnt = bumps (lawsD xs) wss (List.replicate n 0) := by have h1 := hcnt.out; rwa [List.take_of_length_le (by rw [HW.out.len]; exact rr)] at h1
   have HM' : Hid (usedM (lawsD xs) wss = (0, cnt)) := by show _ = _; rw [HM.out, HLN.out, ← hfin]
   clear hfin
   go_wp2
   go_ret2
   exact ⟨_, n, n, by rw [HM'.out]; rfl, by rw [HM'.out]; exact ints_row hg.out (by rw [hcnt.out, bumps_len, List.length_replicate]) (by unfold maxLen; omega), hBB⟩
def woAt (xs : List LawR) (k j : Nat) : List LawR := xs.take (min j k) ++ (xs.take j).drop (k + 1)
theorem woAt_step {xs : List LawR} {k j : Nat} {x : LawR} (h : xs[j]? = some x) (hne : j ≠ k) : woAt xs k (j + 1) = woAt xs k j ++ [x] := by
 have hl := (List.getElem?_eq_some_iff.1 h).1
 unfold woAt
 rcases Nat.lt_or_gt_of_ne hne with hlt | hlt
 ·rw [show min (j + 1) k = j + 1 by omega, show min j k = j by omega, List.drop_eq_nil_of_le (by rw [List.length_take]; omega), List.drop_eq_nil_of_le (by rw [List.length_take]; omega), take_snoc' xs j x h]; simp
 ·rw [show min (j + 1) k = k by omega, show min j k = k by omega, take_snoc' xs j x h, List.drop_append_of_le_length (by rw [List.length_take]; omega), List.append_assoc]
theorem woAt_same {xs : List LawR} {k : Nat} : woAt xs k (k + 1) = woAt xs k k := by
 unfold woAt
 rw [show min (k + 1) k = k by omega, show min k k = k by omega, List.drop_eq_nil_of_le (by rw [List.length_take]; omega), List.drop_eq_nil_of_le (by rw [List.length_take]; omega)]
theorem woAt_full {xs : List LawR} {k n : Nat} (hn : xs.length = n) (hk : k ≤ n) : woAt xs k n = xs.take k ++ xs.drop (k + 1) := by
 unfold woAt
 rw [show min n k = k by omega, List.take_of_length_le (l := xs) (i := n) (by omega)]
theorem woAt_len {xs : List LawR} {k j : Nat} : (woAt xs k j).length ≤ j := by
 unfold woAt
 rw [List.length_append, List.length_drop, List.length_take, List.length_take]; omega
theorem r10Without_c (A : Option Addr) (n c : Nat) (xs : List LawR) (k : Nat) (w : World) (hx : IsLaws w A n c xs) (hn : n ≤ 4000) (hk : k ≤ n) :
  Calls Tryz.prog 67 #[.slice A n c, .int .i64 k] w (RetLaws w (xs.take k ++ xs.drop (k + 1))) := by
 have hmx := hx.max
 have hlen := hx.len
 have HX := hI hx; clear hx
 have HLEN := hI hlen; clear hlen
 go_enter Tryz.func67, Tryz.ntmps67
 go_wp2
 go_loopw [5, 6] (fun v i wr => ∃ j q : Nat, i = .int .i64 j ∧ j ≤ n ∧ q ≤ j ∧ Hid (wr.ownsRow w.heap.size 49 18 v q ((woAt xs k j).flatMap LawR.cells)) ∧ Below w.heap.size w wr) (fun _ i _ => n - (intOf i).toNat)
 case atStart => exact ⟨0, 0, rfl, Nat.zero_le _, rr, (by show World.ownsRow _ _ _ _ _ _ _; unfold woAt; simpa using World.ownsRow_nil _ _ _ _), Below.refl _ _⟩
 case round =>
  obtain ⟨j, q, rfl, hj, hq, hown, hB⟩ := hrel
  have hBs := hB.size
  obtain ⟨A7, c7, rfl⟩ := own_form hown.out
  by_cases hlt : j < n
  ·obtain ⟨s, hsk⟩ := HX.out.get hlt
   obtain ⟨b, off, hA, hbl, hrg⟩ := (HX.out.below hB rr).at_ hsk
   subst hA
   have hlt' : (j : Int) < (n : Int) := by omega
   have HRG := hI hrg; clear hrg
   by_cases hjk : j = k
   ·subst hjk
    have h1 : ((j : Int) != (j : Int)) = false := by simp
    have HW := hI (woAt_same (xs := xs) (k := j))
    clear hsk
    go_wp2
    go_roundw
    case rel => exact ⟨j + 1, q, by go_num, by omega, by omega, (by show World.ownsRow _ _ _ _ _ _ _; rw [HW.out]; exact hown.out), hB⟩
    case measure => simp [intOf]; omega
   ·have h1 : ((j : Int) != (k : Int)) = true := by simp; omega
    have HW := hI (woAt_step (xs := xs) (k := k) hsk hjk)
    clear hsk hjk
    have hown2 : (wr.alloc (.cells (s.cells).toArray 49)).ownsRow w.heap.size 49 18 (.slice A7 q c7) q ((woAt xs k j).flatMap LawR.cells) := hown.out.alloc _
    have HOWN2 := hI hown2; clear hown2
    have hrec : Recs LawR.cells 18 (wr.alloc (.cells (s.cells).toArray 49)) (some ⟨wr.heap.size, 0, none⟩) 1 1 [s] :=
     ⟨⟨by simp [LawR.len], rr, by unfold maxLen; omega, (fun h => by cases h), fun _ => ⟨wr.heap.size, 0, rfl, by simp, fun j v hv => by rw [Nat.zero_add]; exact cell_new_at (by simpa using hv)⟩⟩, rfl⟩
    have HREC := hI hrec; clear hrec
    go_wp2_with (first | (refine load_lawM rfl (.tmp 19) rfl b (off + j * 18) s rfl HRG.out ?_) | (refine build_law1 rfl (.tmp 20) rfl s rfl ?_) | (at_builtin; refine append_laws rfl (.tmp 16) (.tmp 21) rfl w.heap.size (.slice A7 q c7) q (woAt xs k j) rfl HOWN2.out (some ⟨wr.heap.size, 0, none⟩) 1 1 [s] rfl HREC.out (by omega) (by simp; omega) ?_; intro v' w9 hown9 hg9 _))
    have hB9 : Below w.heap.size w w9 := (hB.alloc hBs _).grown hg9 (by simp; omega) (fun p hp => (HOWN2.out.lt _ hp).1)
    go_roundw
    case rel => exact ⟨j + 1, q + 1, by go_num, by omega, by omega, (by show World.ownsRow _ _ _ _ _ _ _; rw [HW.out]; exact hown9), hB9⟩
    case measure => simp [intOf]; omega
  ·obtain rfl : j = n := by omega
   have hown' := hown.out
   rw [woAt_full HLEN.out hk] at hown'
   have HOWN := hI hown'; clear hown'
   go_wp2
   go_ret
   exact RetLaws.of_own rfl HOWN.out (fun x hx => by
    rcases List.mem_append.1 hx with h | h
    ·exact (HX.out.below hB rr).2 x (List.mem_of_mem_take h)
    ·exact (HX.out.below hB rr).2 x (List.mem_of_mem_drop h)) hB rr
end Go.Proofs.YtfgilinjaldhhaaGreatDoor

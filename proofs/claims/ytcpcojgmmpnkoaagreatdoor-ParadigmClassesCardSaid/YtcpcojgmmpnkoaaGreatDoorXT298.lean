/-
  ablautlaw29.ParadigmClasses is true.
-/
import Derived.Test.YtcpcojgmmpnkoaaGreatDoorG76
import Derived.Test.YtcpcojgmmpnkoaaGreatDoorG67
set_option linter.all false
set_option maxRecDepth 100000
set_option maxHeartbeats 4000000
namespace Go.Proofs.YtcpcojgmmpnkoaaGreatDoor
open Go.RowKit Go.Shelf
def builtT (wss : List (List Snd)) (T : List (List Frm)) : List (List Frm) := (wss.zip T).map fun p => p.2.map (builtF p.1)
theorem built_at {wss : List (List Snd)} {T : List (List Frm)} {i : Nat} {s : List Snd} {r : List Frm} (h1 : wss[i]? = some s) (h2 : T[i]? = some r) : (builtT wss T)[i]? = some (r.map (builtF s)) := by
 unfold builtT
 rw [List.getElem?_map, zip_at h1 h2]; rfl
theorem built_len {wss : List (List Snd)} {T : List (List Frm)} (h : wss.length = T.length) : (builtT wss T).length = T.length := by simp [builtT, h]
theorem built_rows {wss : List (List Snd)} {T : List (List Frm)} (hw : ∀ s ∈ wss, s.length ≤ 3 ∧ ∀ x ∈ s, wvalid x.1 x.2 = true) (h : ∀ r ∈ T, Row4 3 r) : ∀ r ∈ builtT wss T, Row4 6 r := fun r hr => by
 obtain ⟨p, hp, rfl⟩ := List.mem_map.1 hr
 obtain ⟨h1, h2⟩ := List.of_mem_zip hp
 exact row_built (c := 3) (b := 3) (hw _ h1).1 (hw _ h1).2 (h _ h2)
theorem built_ends {wss : List (List Snd)} {T : List (List Frm)} (hl : wss.length = T.length) (h : ∀ r ∈ T, Row4 3 r) : (builtT wss T).map endsOf = T.map endsOf := by
 apply List.ext_getElem?
 intro i
 rw [List.getElem?_map, List.getElem?_map]
 rcases Nat.lt_or_ge i T.length with hi | hi
 ·have h2 : T[i]? = some T[i] := List.getElem?_eq_getElem hi
  have h1 : wss[i]? = some (wss[i]'(by omega)) := List.getElem?_eq_getElem _
  rw [built_at h1 h2, h2]
  show some (endsOf _) = some (endsOf _)
  rw [ends_built _ _ fun x hx => ((h _ (List.getElem_mem hi)).2 x hx).1]
 ·rw [List.getElem?_eq_none hi, List.getElem?_eq_none (by rw [built_len hl]; exact hi)]
theorem hasK_ends (r : List Frm) : hasK (endsOf r) = hasK r := by
 unfold hasK endsOf
 rw [List.any_map]
 congr 1
 funext x
 show (if x.1 = true then (true, x.2.drop (stemN r).toNat) else (false, ([] : List Snd))).1 = x.1
 cases hx : x.1 <;> simp
theorem ends_none {r : List Frm} (h : hasK r = false) : endsOf r = List.replicate r.length (false, []) := by
 unfold endsOf
 rw [List.eq_replicate_iff]
 refine ⟨by simp, fun x hx => ?_⟩
 obtain ⟨y, hy, rfl⟩ := List.mem_map.1 hx
 have : y.1 = false := by
  cases hy1 : y.1 with
  | false => rfl
  | true => rw [show hasK r = true from List.any_eq_true.2 ⟨y, hy, hy1⟩] at h; cases h
 simp [this]
theorem class_built {B : List (List Frm)} (h : parE B = 0) : pClassM B = (0, labelsM (B.map endsOf)) := by unfold pClassM; rw [if_neg (by simp [h])]
theorem word_empty (w : World) (a : Addr) (ha : True) : IsWord w (some a) 0 0 [] := ⟨rfl, rr, by unfold maxLen; omega, (fun h => by cases h), fun h => absurd h (by omega)⟩
theorem hasK_built (s : List Snd) (r : List Frm) : hasK (r.map (builtF s)) = hasK r := by
 unfold hasK
 rw [List.any_map]
 rfl
theorem parClasses_c (A : Option Addr) (n c : Nat) (l : List Nat) (A' : Option Addr) (n' c' : Nat) (ss : List Nat) (w : World) (hx : IsNums w A n c l) (hy : IsBytes w A' n' c' ss) (hT : TabOK w) :
  Calls Tryz.prog 11 #[.slice A n c, .slice A' n' c'] w (RetTrue w) := by
 have hm := hx.max
 have hm' := hy.max
 have HX := hI hx
 have HY := hI hy
 have HT := hI hT
 clear hx hy hT
 go_enter Tryz.func11, Tryz.ntmps11
 go_wp2_with fail
 refine (made_c A n c l w HX.out).mono ?_
 obtain ⟨T, hT⟩ : ∃ T, T = madeM l := ⟨_, rfl⟩
 rw [← hT]
 have HR4 : Hid (∀ r ∈ T, Row4 3 r) := by show ∀ r ∈ T, _; rw [hT]; exact made_rows l
 have hT8 : T.length ≤ 8 := by rw [hT]; exact made_len l
 clear hT
 rintro e w1 ⟨A1, n1, c1, rfl, hp1, hB1⟩
 have hn8 : n1 ≤ 8 := by rw [← hp1.len]; exact hT8
 have HTL : Hid (T.length = n1) := hp1.len
 have HP1 := hI hp1
 have HB1 := hI hB1
 clear hp1 hB1 hT8
 go_wp2_with fail
 go_loopw [6, 7] (fun v vi wr => ∃ (i : Nat) (ps : List Part), vi = .int .i64 i ∧ i ≤ n1 ∧ Hid (ps.length = i) ∧ Hid (WordsW wr w1.heap.size v ps) ∧ Hid (∀ s ∈ ps.map Part.word, s.length ≤ 3 ∧ ∀ x ∈ s, wvalid x.1 x.2 = true) ∧ Below w1.heap.size w1 wr) (fun _ vi _ => n1 - (intOf vi).toNat)
 case atStart => exact ⟨0, [], rfl, Nat.zero_le _, rfl, WordsW.nil _, (fun s hs => by cases hs), Below.refl _ _⟩
 case round =>
  obtain ⟨i, ps, rfl, hi, HRI, hww, hval, hB⟩ := hrel
  have hBs := hB.size
  have hBB := HB1.out.trans (hB.mono HB1.out.size)
  by_cases hlt : i < n1
  ·have hi1 : (i : Int) < (n1 : Int) := by omega
   have hb0 : Below wr.heap.size wr (wr.alloc (.cells #[] 24)) := bel
   have hri : ps.length ≤ 70 := by have := HRI.out; omega
   by_cases hlt' : i < n'
   ·have hi2 : (i : Int) < (n' : Int) := by omega
    obtain ⟨b, off, q, rfl, hb, hq, hq256, hc0⟩ := (HY.out.below (hBB.trans (hb0.mono hBB.size)) rr).at_ hlt'
    go_wp2_with fail
    refine (one_c q hq256 _).mono ?_
    obtain ⟨fq, hfq⟩ : ∃ f, f = oneM q := ⟨_, rfl⟩
    rw [← hfq]
    have HL3 : Hid (fq.2.length ≤ 3 ∧ ∀ x ∈ fq.2, wvalid x.1 x.2 = true) := by rw [hfq]; exact ⟨oneM_len q, oneM_snds q⟩
    obtain ⟨h, ws⟩ := fq
    intro e w4 hret
    obtain ⟨A4, n4, c4, rfl, hw4, hb4, hf4⟩ : ∃ A n c, e = .returned (.agg #[.bool h, .slice A n c]) ∧ IsWord w4 A n c ws ∧ Below (wr.alloc (.cells #[] 24)).heap.size (wr.alloc (.cells #[] 24)) w4 ∧ ∀ ad, A = some ad → (wr.alloc (.cells #[] 24)).heap.size ≤ ad.block := hret
    have hb5 := hb0.trans (hb4.mono hb0.size)
    have hb6 : Below wr.heap.size wr (w4.alloc (.cells #[.slice A4 n4 c4] 32)) := hb5.alloc hb5.size _
    have HWW6 := hI (hww.out.below hb6)
    have HAW6 : Hid (Away u6 (w4.alloc (.cells #[.slice A4 n4 c4] 32)) (A4, n4, c4, ws)) := hww.out.fresh (q := (A4, n4, c4, ws)) (IsWord.below hw4 ((Below.refl w4.heap.size w4).alloc rr _) rr) (fun ad had => by have := hf4 ad had; have := hb0.size; omega)
    have HB6 : Hid (Below w1.heap.size w1 (w4.alloc (.cells #[.slice A4 n4 c4] 32))) := hB.trans (hb6.mono hBs)
    have HN : Hid (∀ s ∈ (ps ++ [((A4, n4, c4, ws) : Part)]).map Part.word, s.length ≤ 3 ∧ ∀ x ∈ s, wvalid x.1 x.2 = true) := fun s hs => by
     rw [List.map_append] at hs
     rcases List.mem_append.1 hs with hs | hs
     ·exact hval.out s hs
     ·obtain rfl : s = ws := by simpa [Part.word] using hs
      exact HL3.out
    clear hfq hw4 hf4 hb4 hb5 hb6 hb0 hc0 hq hq256
    have hfld : ∀ X : World, (Instr.field 77 (.agg #[.bool h, .slice A4 n4 c4]) 1).run Tryz.prog X = .ok (.slice A4 n4 c4) X := fun X => by kernel_rfl
    go_wp2_with (at_builtin; refine append_wd rfl (.tmp 38) (.tmp 40) rfl w1.heap.size u6 ps.length (ps.map Part.val) rfl HWW6.out.own ⟨w4.heap.size, 0, none⟩ 1 (.slice A4 n4 c4) rfl (cell_one_new _ _ _) rfl ?hl ?hz ?hd)
    case hl => omega
    case hz => simpa using HB6.out.size
    case hd =>
     intro v' w9 hown9 hg9 hat9
     have HP9 := hI (HWW6.out.push HAW6.out hown9 hg9 (by simpa using hat9))
     have hB9 : Below w1.heap.size w1 w9 := own_below HB6.out HWW6.out.own hg9 rr HB6.out.size
     clear hown9 hg9 hat9
     go_wp2
     go_roundw
     case rel => exact ⟨i + 1, _, by go_num, by omega, by show _ = _; rw [List.length_append, HRI.out]; rfl, HP9.out, HN.out, hB9⟩
     case measure => simp [intOf]; omega
   ·have hi2 : ¬ (i : Int) < (n' : Int) := by omega
    have hb6 : Below wr.heap.size wr ((wr.alloc (.cells #[] 24)).alloc (.cells #[.slice (some ⟨wr.heap.size, 0, none⟩) 0 0] 32)) := bel
    have HWW6 := hI (hww.out.below hb6)
    have HAW6 : Hid (Away u6 ((wr.alloc (.cells #[] 24)).alloc (.cells #[.slice (some ⟨wr.heap.size, 0, none⟩) 0 0] 32)) (some ⟨wr.heap.size, 0, none⟩, 0, 0, [])) := hww.out.fresh (q := (some ⟨wr.heap.size, 0, none⟩, 0, 0, [])) (word_empty _ _ trivial) (fun ad had => by have : ad = ⟨wr.heap.size, 0, none⟩ := (Option.some.inj had).symm; rw [this]; exact rr)
    have HB6 : Hid (Below w1.heap.size w1 ((wr.alloc (.cells #[] 24)).alloc (.cells #[.slice (some ⟨wr.heap.size, 0, none⟩) 0 0] 32))) := hB.trans (hb6.mono hBs)
    have HN : Hid (∀ s ∈ (ps ++ [((some ⟨wr.heap.size, 0, none⟩, 0, 0, []) : Part)]).map Part.word, s.length ≤ 3 ∧ ∀ x ∈ s, wvalid x.1 x.2 = true) := fun s hs => by
     rw [List.map_append] at hs
     rcases List.mem_append.1 hs with hs | hs
     ·exact hval.out s hs
     ·obtain rfl : s = [] := by simpa [Part.word] using hs
      exact ⟨Nat.zero_le _, fun x hx => by cases hx⟩
    have hce : ∀ (j : Nat) (u : Value), [Value.slice (some ⟨wr.heap.size, 0, none⟩) 0 0][j]? = some u → ((wr.alloc (.cells #[] 24)).alloc (.cells #[.slice (some ⟨wr.heap.size, 0, none⟩) 0 0] 32)).cell? ((⟨wr.heap.size + 1, 0, none⟩ : Addr).add j) = some u := by
     have e : (wr.alloc (.cells #[] 24)).heap.size = wr.heap.size + 1 := by simp
     rw [← e]
     exact cell_one_new _ _ _
    clear hb6 hb0
    go_wp2_with (at_builtin; refine append_wd rfl (.tmp 38) (.tmp 40) rfl w1.heap.size u6 ps.length (ps.map Part.val) rfl HWW6.out.own ⟨wr.heap.size + 1, 0, none⟩ 1 (.slice (some ⟨wr.heap.size, 0, none⟩) 0 0) rfl hce rfl ?hl ?hz ?hd)
    case hl => omega
    case hz => simpa using HB6.out.size
    case hd =>
     intro v' w9 hown9 hg9 hat9
     have HP9 := hI (HWW6.out.push HAW6.out hown9 hg9 (by simpa using hat9))
     have hB9 : Below w1.heap.size w1 w9 := own_below HB6.out HWW6.out.own hg9 rr HB6.out.size
     clear hown9 hg9 hat9
     go_wp2
     go_roundw
     case rel => exact ⟨i + 1, _, by go_num, by omega, by show _ = _; rw [List.length_append, HRI.out]; rfl, HP9.out, HN.out, hB9⟩
     case measure => simp [intOf]; omega
  ·have hi1 : ¬ (i : Int) < (n1 : Int) := by omega
   have hin : i = n1 := by omega
   have hpl : ps.length = n1 := HRI.out.trans hin
   obtain ⟨A5, c5, hv5⟩ := own_form hww.out.own
   subst hv5
   have hip := hww.out.words rfl
   obtain ⟨wss, hwss⟩ : ∃ wss, wss = ps.map Part.word := ⟨_, rfl⟩
   rw [← hwss, hpl] at hip
   rw [← hwss] at hval
   have HLW : Hid (wss.length = T.length) := by show _ = _; rw [hwss, List.length_map, hpl, HTL.out]
   rw [hpl]
   have HIP := hI hip
   have HBO := hI (build_ok HLW.out (by rw [HTL.out]; omega) hval.out HR4.out)
   have HRB : Hid (∀ r ∈ builtT wss T, Row4 6 r) := built_rows hval.out HR4.out
   have HBL : Hid ((builtT wss T).length = n1) := (built_len HLW.out).trans HTL.out
   have HPB : Hid (parE (builtT wss T) = 0) := par_zero (b := 6) (by omega) (by rw [HBL.out]; omega) HRB.out
   have HCB : Hid (pClassM (builtT wss T) = (0, labelsM (T.map endsOf))) := by show _ = _; rw [class_built HPB.out, built_ends HLW.out HR4.out]
   clear hip hpl hwss hin hww HRI
   go_wp2_with fail
   refine (pBuild_c A5 n1 c5 wss A1 n1 c1 T wr HIP.out (HP1.out.below hB rr)).mono ?_
   rw [HBO.out]
   rintro e w2 ⟨A7, n7, c7, rfl, hp7, hb2⟩
   replace hp7 : IsPar w2 A7 n7 c7 (builtT wss T) := hp7
   have hn7 : n7 = n1 := by rw [← hp7.len]; exact HBL.out
   subst hn7
   have HP7 := hI hp7
   have HB2 := hI (hB.trans (hb2.mono hBs))
   clear hp7 hb2
   go_wp2_with fail
   refine (pClasses_c A7 n7 c7 _ w2 HP7.out).mono ?_
   rw [HCB.out]
   rintro e w3 ⟨A8, n8, c8, rfl, hi8, hb3⟩
   have hn8' : n8 = n7 := by rw [← hi8.len, labels_len, List.length_map]; exact HTL.out
   subst hn8'
   have HB3 := hI (HB2.out.trans (hb3.mono HB2.out.size))
   have HI8 := hI hi8
   have HP73 := hI (HP7.out.below hb3 rr)
   clear hi8 hb3
   go_wp2_with fail
   refine (labelled_c (T.map endsOf) A8 n8 c8 w3 HI8.out).mono ?_
   rintro e w4 ⟨rfl, hb4⟩
   have HB4 := hI (HB3.out.trans (hb4.mono HB3.out.size))
   have HI84 := hI (HI8.out.below hb4 rr)
   have HP74 := hI (HP73.out.below hb4 rr)
   have hnn : ((n8 : Int) != (n8 : Int)) = false := by simp
   clear hb4
   go_wp2_with fail
   clear hnn
   go_loopw [13] (fun vi wr => ∃ i : Nat, vi = .int .i64 i ∧ i ≤ n8 ∧ Below w4.heap.size w4 wr) (fun vi _ => n8 - (intOf vi).toNat)
   case atStart => exact ⟨0, rfl, Nat.zero_le _, Below.refl _ _⟩
   case round =>
    obtain ⟨i, rfl, hi, hB5⟩ := hrel
    have hBB5 := HB4.out.trans (hB5.mono HB4.out.size)
    by_cases hlti : i < n8
    ·have hi1 : (i : Int) < (n8 : Int) := by omega
     obtain ⟨wi, hwi⟩ : ∃ wi, wi = wr := ⟨_, rfl⟩
     rw [← hwi] at hB5
     have HWI := hI hwi
     clear hwi
     go_wp2_with fail
     go_loopw [14] (fun vj wr => ∃ j : Nat, vj = .int .i64 j ∧ j ≤ i ∧ Below w4.heap.size w4 wr) (fun vj _ => i - (intOf vj).toNat)
     case atStart => exact ⟨0, rfl, Nat.zero_le _, by rw [← HWI.out]; exact hB5⟩
     case round =>
      obtain ⟨j, rfl, hj, hB6⟩ := hrel
      have hB6s := hB6.size
      have hBB6 := HB4.out.trans (hB6.mono HB4.out.size)
      by_cases hltj : j < i
      ·have hj1 : (j : Int) < (i : Int) := by omega
       have hj2 : (j : Int) < (n8 : Int) := by omega
       have hi8' : i < n8 := hlti
       obtain ⟨b3, off3, A2, n2, c2, ri, rfl, hb3, d0, hri, hfi⟩ := HP1.out.at_ (k := i) (by omega)
       obtain ⟨b3', off3', A2', n2', c2', rj, hA3, _, d1, hrj, hfj⟩ := HP1.out.at_ (k := j) (by omega)
       obtain ⟨rfl, rfl⟩ : b3 = b3' ∧ off3 = off3' := by simpa using hA3
       have hBw := HB4.out.trans (hB6.mono HB4.out.size)
       obtain ⟨b5, off5, a1, rfl, hb5, g0, hx1⟩ := (HI84.out.below hB6 rr).at_ (k := i) (by omega)
       obtain ⟨b5', off5', a2, hA5, _, g1, hx2⟩ := (HI84.out.below hB6 rr).at_ (k := j) (by omega)
       obtain ⟨rfl, rfl⟩ : b5 = b5' ∧ off5 = off5' := by simpa using hA5
       have f0 := (hBw.cell (p := ⟨b3, off3 + i, none⟩) hb3).trans d0
       have f1 := (hBw.cell (p := ⟨b3, off3 + j, none⟩) hb3).trans d1
       have HFI := hI (hfi.below hBw rr)
       have HFJ := hI (hfj.below hBw rr)
       have hi' : i < (T.map endsOf).length := by rw [List.length_map, HTL.out]; exact hlti
       have hj' : j < (T.map endsOf).length := by rw [List.length_map, HTL.out]; omega
       rw [labels_get hi'] at hx1
       rw [labels_get hj'] at hx2
       have ha1 : (labAt (T.map endsOf) i : Int) = a1 := Option.some.inj hx1
       have ha2 : (labAt (T.map endsOf) j : Int) = a2 := Option.some.inj hx2
       have hiff := lab_iff hi' hj'
       rw [List.getElem?_map, List.getElem?_map, hri, hrj] at hiff
       have hiff2 : a1 = a2 ↔ endsOf ri = endsOf rj := by
        rw [← ha1, ← ha2]
        constructor
        ·intro e
         have := hiff.1 (by exact_mod_cast e)
         simpa using this
        ·intro e
         have := hiff.2 (by simp [e])
         rw [this]
       obtain ⟨si, hsi⟩ : ∃ s, wss[i]? = some s := ⟨wss[i]'(by rw [HLW.out, HTL.out]; exact hlti), List.getElem?_eq_getElem _⟩
       obtain ⟨sj, hsj⟩ : ∃ s, wss[j]? = some s := ⟨wss[j]'(by rw [HLW.out, HTL.out]; omega), List.getElem?_eq_getElem _⟩
       have hri4 := HR4.out ri (List.mem_of_getElem? hri)
       have hrj4 := HR4.out rj (List.mem_of_getElem? hrj)
       have hei := pEnds_row HPB.out (built_at hsi hri)
       have hej := pEnds_row HPB.out (built_at hsj hrj)
       rw [ends_built _ _ fun x hx => (hri4.2 x hx).1] at hei
       rw [ends_built _ _ fun x hx => (hrj4.2 x hx).1] at hej
       rw [hasK_built] at hei hej
       have HIFF := hI hiff2
       have hbr : b3 < wr.heap.size := by have := hBw.size; omega
       have HNI : Hid (hasK ri = false → endsOf ri = List.replicate 4 (false, [])) := fun e => by rw [ends_none e, hri4.1]
       have HNJ : Hid (hasK rj = false → endsOf rj = List.replicate 4 (false, [])) := fun e => by rw [ends_none e, hrj4.1]
       have HKI : Hid (endsOf ri = endsOf rj → hasK ri = hasK rj) := fun e => by rw [← hasK_ends ri, ← hasK_ends rj, e]
       clear hA3 hA5 d0 d1 hfi hfj hi' hj' hx1 hx2 ha1 ha2 hiff hiff2 hsi hsj hri hrj hri4 hrj4 hBw
       by_cases hrr : ri = rj
       ·subst hrr
        obtain rfl : a1 = a2 := HIFF.out.2 rfl
        have hne : (a1 != a1) = false := by simp
        have hS : wr.cell? ⟨b3, off3 + i, none⟩ = some (.slice A2 n2 c2) ∧ wr.cell? ⟨b3, off3 + j, none⟩ = some (.slice A2' n2' c2') ∧ wr.cell? ⟨b5, off5 + i, none⟩ = some (.int .i64 a1) ∧ wr.cell? ⟨b5, off5 + j, none⟩ = some (.int .i64 a1) := ⟨f0, f1, g0, g1⟩
        have HSB : Hid (∀ W : World, Below wr.heap.size wr W → W.cell? ⟨b3, off3 + i, none⟩ = some (.slice A2 n2 c2) ∧ W.cell? ⟨b3, off3 + j, none⟩ = some (.slice A2' n2' c2') ∧ W.cell? ⟨b5, off5 + i, none⟩ = some (.int .i64 a1) ∧ W.cell? ⟨b5, off5 + j, none⟩ = some (.int .i64 a1)) := fun W hb => ⟨(hb.cell (p := ⟨b3, off3 + i, none⟩) hbr).trans f0, (hb.cell (p := ⟨b3, off3 + j, none⟩) hbr).trans f1, (hb.cell (p := ⟨b5, off5 + i, none⟩) hb5).trans g0, (hb.cell (p := ⟨b5, off5 + j, none⟩) hb5).trans g1⟩
        go_wp2_with fail
        refine plain_region (fun W' => W'.cell? ⟨b3, off3 + i, none⟩ = some (.slice A2 n2 c2) ∧ W'.cell? ⟨b3, off3 + j, none⟩ = some (.slice A2' n2' c2') ∧ W'.cell? ⟨b5, off5 + i, none⟩ = some (.int .i64 a1) ∧ W'.cell? ⟨b5, off5 + j, none⟩ = some (.int .i64 a1)) (by kernel_rfl) hS (fun hHeld => ?_)
        (refine' anyT_tk 0 rfl ?_; (try simp only [Act.put, nY, nX])); (refine' anyT_tk 1 rfl ?_; (try simp only [Act.put, nY, nX])); (refine' anyT_tk 2 rfl ?_; (try simp only [Act.put, nY, nX])); (refine' anyT_tk 3 rfl ?_; (try simp only [Act.put, nY, nX])); (refine' anyT_tk 4 rfl ?_; (try simp only [Act.put, nY, nX])); (refine' anyT_tk 5 rfl ?_; (try simp only [Act.put, nY, nX])); (refine' anyT_tk 6 rfl ?_; (try simp only [Act.put, nY, nX])); (refine' anyT_tk 7 rfl ?_; (try simp only [Act.put, nY, nX]))
        clear hHeld hS f0 f1 g0 g1
        (refine anyT_sp 8 rfl (fun K' hK' => ?_); simp only [nY]; go_simp)
        have hbd : Below wr.heap.size wr wr.drew := (Below.refl _ _).drew
        refine (r29Rows_c A2 A2' n2 n2' c2 c2' _ _ wr.drew (HFI.out.below hbd rr) (HFJ.out.below hbd rr)).mono ?_
        rintro e wd ⟨rfl, hbe⟩
        rw [World.size_drew] at hbe
        rw [decide_eq_true rfl]
        have hbf := hbd.trans hbe
        have hS := HSB.out _ hbf
        refine hK' _ _ ⟨.inr hS, fun _ => ?_⟩
        clear hK' K' hbd hbe
        (try simp only [Act.put, nY, nX])
        (refine' anyT_tk 9 rfl ?_; (try simp only [Act.put, nY, nX])); (refine' anyT_tk 10 rfl ?_; (try simp only [Act.put, nY, nX])); (refine' anyT_tk 11 rfl ?_; (try simp only [Act.put, nY, nX])); (refine' anyT_tk 12 rfl ?_; (try simp only [Act.put, nY, nX])); (refine' anyT_tk 13 rfl ?_; (try simp only [Act.put, nY, nX])); (refine' anyT_tk 14 rfl ?_; (try simp only [Act.put, nY, nX])); (refine' anyT_tk 15 rfl ?_; (try simp only [Act.put, nY, nX])); (refine' anyT_tk 16 rfl ?_; (try simp only [Act.put, nY, nX])); (refine' anyT_tk 17 rfl ?_; (try simp only [Act.put, nY, nX])); (refine' anyT_tk 18 rfl ?_; (try simp only [Act.put, nY, nX]))
        (refine anyT_sp 19 rfl (fun K' hK' => ?_); simp only [nY]; go_simp)
        refine hK' _ _ ⟨.inl (by kernel_rfl), fun _ => anyT_done (by kernel_rfl) ?_ _⟩
        clear hK' K' hS
        have HBF := hI hbf
        have HB7 := hI (hB6.trans (hbf.mono hB6.size))
        clear hbf
        by_cases hki : hasK ri = true
        ·rw [if_pos hki] at hei hej
         have HEI := hI hei
         have HEJ := hI hej
         clear hei hej
         go_wp2_with fail
         refine (pEndings_c A7 n8 c7 _ i _ (HP74.out.below HB7.out rr) (by omega)).mono ?_
         rw [HEI.out]
         rintro e we ⟨Ae, ne, ce, rfl, hoe, hbe⟩
         have HBE := hI (HB7.out.trans (hbe.mono HB7.out.size))
         have HBFE := hI (HBF.out.trans (hbe.mono HBF.out.size))
         have HFE := hI hoe.forms
         clear hoe hbe
         go_wp2_with fail
         refine (pEndings_c A7 n8 c7 _ j we (HP74.out.below HBE.out rr) (by omega)).mono ?_
         rw [HEJ.out]
         rintro e wf ⟨Af, nf, cf, rfl, hof, hbf⟩
         have HBG := hI (HBE.out.trans (hbf.mono HBE.out.size))
         have HBFG := hI (HBFE.out.trans (hbf.mono HBFE.out.size))
         have HFE2 := hI (HFE.out.below hbf rr)
         have HFF := hI hof.forms
         have hS := HSB.out _ HBFG.out
         clear hof hbf
         have hab : (a1 == a1) = true := by simp
         go_wp2_with fail
         refine plain_region (fun W' => W'.cell? ⟨b3, off3 + i, none⟩ = some (.slice A2 n2 c2) ∧ W'.cell? ⟨b3, off3 + j, none⟩ = some (.slice A2' n2' c2') ∧ W'.cell? ⟨b5, off5 + i, none⟩ = some (.int .i64 a1) ∧ W'.cell? ⟨b5, off5 + j, none⟩ = some (.int .i64 a1)) (by kernel_rfl) hS (fun hHeld => ?_)
         (refine' anyT_tk 0 rfl ?_; (try simp only [Act.put, nY, nX])); (refine' anyT_tk 1 rfl ?_; (try simp only [Act.put, nY, nX])); (refine' anyT_tk 2 rfl ?_; (try simp only [Act.put, nY, nX])); (refine' anyT_tk 3 rfl ?_; (try simp only [Act.put, nY, nX])); (refine' anyT_tk 4 rfl ?_; (try simp only [Act.put, nY, nX])); (refine' anyT_tk 5 rfl ?_; (try simp only [Act.put, nY, nX])); (refine' anyT_tk 6 rfl ?_; (try simp only [Act.put, nY, nX])); (refine' anyT_tk 7 rfl ?_; (try simp only [Act.put, nY, nX])); (refine' anyT_tk 8 rfl ?_; (try simp only [Act.put, nY, nX]))
         (refine' anyT_tk 9 rfl ?_; (try simp only [Act.put, nY, nX])); (refine' anyT_tk 10 rfl ?_; (try simp only [Act.put, nY, nX])); (refine' anyT_tk 11 rfl ?_; (try simp only [Act.put, nY, nX])); (refine' anyT_tk 12 rfl ?_; (try simp only [Act.put, nY, nX])); (refine' anyT_tk 13 rfl ?_; (try simp only [Act.put, nY, nX])); (refine' anyT_tk 14 rfl ?_; (try simp only [Act.put, nY, nX])); (refine' anyT_tk 15 rfl ?_; (try simp only [Act.put, nY, nX])); (refine' anyT_tk 16 rfl ?_; (try simp only [Act.put, nY, nX])); (refine' anyT_tk 17 rfl ?_; (try simp only [Act.put, nY, nX]))
         clear hHeld hS
         (refine anyT_sp 18 rfl (fun K' hK' => ?_); simp only [nY]; go_simp)
         have hbd : Below wf.heap.size wf wf.drew := (Below.refl _ _).drew
         refine (r29Rows_c Ae Af ne nf ce cf (endsOf ri) (endsOf ri) wf.drew (HFE2.out.below hbd rr) (HFF.out.below hbd rr)).mono ?_
         rintro e wd ⟨rfl, hbe⟩
         rw [World.size_drew] at hbe
         have hbf := hbd.trans hbe
         rw [show decide (endsOf ri = endsOf ri) = true from decide_eq_true rfl]
         have HBH := hI (HBFG.out.trans (hbf.mono HBFG.out.size))
         have hS := HSB.out _ HBH.out
         refine hK' _ _ ⟨.inr hS, fun _ => ?_⟩
         clear hK' K' hbd hbe
         (try simp only [Act.put, nY, nX])
         (refine' anyT_tk 19 rfl ?_; (try simp only [Act.put, nY, nX])); (refine' anyT_tk 20 rfl ?_; (try simp only [Act.put, nY, nX]))
         (refine anyT_sp 21 rfl (fun K' hK' => ?_); simp only [nY]; go_simp)
         refine hK' _ _ ⟨.inl (by kernel_rfl), fun _ => anyT_done (by kernel_rfl) ?_ _⟩
         clear hK' K' hS
         go_wp2
         go_roundw
         case rel => exact ⟨j + 1, by go_num, by omega, (HBG.out.trans (hbf.mono HBG.out.size))⟩
         case measure => simp [intOf]; omega
        ·rw [if_neg hki] at hei hej
         have HEI := hI hei
         have HEJ := hI hej
         clear hei hej
         go_wp2_with fail
         refine (pEndings_c A7 n8 c7 _ i _ (HP74.out.below HB7.out rr) (by omega)).mono ?_
         rw [HEI.out]
         rintro e we ⟨Ae, ne, ce, rfl, hoe, hbe⟩
         have HBE := hI (HB7.out.trans (hbe.mono HB7.out.size))
         have HBFE := hI (HBF.out.trans (hbe.mono HBF.out.size))
         have HFE := hI hoe.forms
         clear hoe hbe
         go_wp2_with fail
         refine (pEndings_c A7 n8 c7 _ j we (HP74.out.below HBE.out rr) (by omega)).mono ?_
         rw [HEJ.out]
         rintro e wf ⟨Af, nf, cf, rfl, hof, hbf⟩
         have HBG := hI (HBE.out.trans (hbf.mono HBE.out.size))
         have HBFG := hI (HBFE.out.trans (hbf.mono HBFE.out.size))
         have HFE2 := hI (HFE.out.below hbf rr)
         have HFF := hI hof.forms
         have hS := HSB.out _ HBFG.out
         clear hof hbf
         have hab : (a1 == a1) = true := by simp
         go_wp2_with fail
         refine plain_region (fun W' => W'.cell? ⟨b3, off3 + i, none⟩ = some (.slice A2 n2 c2) ∧ W'.cell? ⟨b3, off3 + j, none⟩ = some (.slice A2' n2' c2') ∧ W'.cell? ⟨b5, off5 + i, none⟩ = some (.int .i64 a1) ∧ W'.cell? ⟨b5, off5 + j, none⟩ = some (.int .i64 a1)) (by kernel_rfl) hS (fun hHeld => ?_)
         (refine' anyT_tk 0 rfl ?_; (try simp only [Act.put, nY, nX])); (refine' anyT_tk 1 rfl ?_; (try simp only [Act.put, nY, nX])); (refine' anyT_tk 2 rfl ?_; (try simp only [Act.put, nY, nX])); (refine' anyT_tk 3 rfl ?_; (try simp only [Act.put, nY, nX])); (refine' anyT_tk 4 rfl ?_; (try simp only [Act.put, nY, nX])); (refine' anyT_tk 5 rfl ?_; (try simp only [Act.put, nY, nX])); (refine' anyT_tk 6 rfl ?_; (try simp only [Act.put, nY, nX])); (refine' anyT_tk 7 rfl ?_; (try simp only [Act.put, nY, nX])); (refine' anyT_tk 8 rfl ?_; (try simp only [Act.put, nY, nX]))
         (refine' anyT_tk 9 rfl ?_; (try simp only [Act.put, nY, nX])); (refine' anyT_tk 10 rfl ?_; (try simp only [Act.put, nY, nX])); (refine' anyT_tk 11 rfl ?_; (try simp only [Act.put, nY, nX])); (refine' anyT_tk 12 rfl ?_; (try simp only [Act.put, nY, nX])); (refine' anyT_tk 13 rfl ?_; (try simp only [Act.put, nY, nX])); (refine' anyT_tk 14 rfl ?_; (try simp only [Act.put, nY, nX])); (refine' anyT_tk 15 rfl ?_; (try simp only [Act.put, nY, nX]))
         refine' anyT_take (i := 16) (v := undef) rfl (by as_aux_lemma => kernel_rfl) (by as_aux_lemma => kernel_rfl) (by as_aux_lemma => kernel_rfl) (by as_aux_lemma => kernel_rfl) (fun _ _ _ h => h) (Or.inr ⟨by as_aux_lemma => kernel_rfl, rfl⟩) hS ?_
         (try simp only [Act.put, nY, nX])
         refine' anyT_take (i := 17) (v := undef) rfl (by as_aux_lemma => kernel_rfl) (by as_aux_lemma => kernel_rfl) (by as_aux_lemma => kernel_rfl) (by as_aux_lemma => kernel_rfl) (fun _ _ _ h => h) (Or.inr ⟨by as_aux_lemma => kernel_rfl, rfl⟩) hS ?_
         (try simp only [Act.put, nY, nX])
         refine' anyT_take (i := 18) (v := undef) rfl (by as_aux_lemma => kernel_rfl) (by as_aux_lemma => kernel_rfl) (by as_aux_lemma => kernel_rfl) (by as_aux_lemma => kernel_rfl) (fun _ _ _ h => h) (Or.inr ⟨by as_aux_lemma => kernel_rfl, rfl⟩) hS ?_
         (try simp only [Act.put, nY, nX])
         (refine' anyT_tk 19 rfl ?_; (try simp only [Act.put, nY, nX])); (refine' anyT_tk 20 rfl ?_; (try simp only [Act.put, nY, nX]))
         (refine anyT_sp 21 rfl (fun K' hK' => ?_); simp only [nY]; go_simp)
         refine hK' _ _ ⟨.inl (by kernel_rfl), fun _ => anyT_done (by kernel_rfl) ?_ _⟩
         clear hK' K' hS
         go_wp2
         go_roundw
         case rel => exact ⟨j + 1, by go_num, by omega, HBG.out.drew⟩
         case measure => simp [intOf]; omega
       ·have hS : wr.cell? ⟨b3, off3 + i, none⟩ = some (.slice A2 n2 c2) ∧ wr.cell? ⟨b3, off3 + j, none⟩ = some (.slice A2' n2' c2') ∧ wr.cell? ⟨b5, off5 + i, none⟩ = some (.int .i64 a1) ∧ wr.cell? ⟨b5, off5 + j, none⟩ = some (.int .i64 a2) := ⟨f0, f1, g0, g1⟩
        have HSB : Hid (∀ W : World, Below wr.heap.size wr W → W.cell? ⟨b3, off3 + i, none⟩ = some (.slice A2 n2 c2) ∧ W.cell? ⟨b3, off3 + j, none⟩ = some (.slice A2' n2' c2') ∧ W.cell? ⟨b5, off5 + i, none⟩ = some (.int .i64 a1) ∧ W.cell? ⟨b5, off5 + j, none⟩ = some (.int .i64 a2)) := fun W hb => ⟨(hb.cell (p := ⟨b3, off3 + i, none⟩) hbr).trans f0, (hb.cell (p := ⟨b3, off3 + j, none⟩) hbr).trans f1, (hb.cell (p := ⟨b5, off5 + i, none⟩) hb5).trans g0, (hb.cell (p := ⟨b5, off5 + j, none⟩) hb5).trans g1⟩
        go_wp2_with fail
        refine plain_region (fun W' => W'.cell? ⟨b3, off3 + i, none⟩ = some (.slice A2 n2 c2) ∧ W'.cell? ⟨b3, off3 + j, none⟩ = some (.slice A2' n2' c2') ∧ W'.cell? ⟨b5, off5 + i, none⟩ = some (.int .i64 a1) ∧ W'.cell? ⟨b5, off5 + j, none⟩ = some (.int .i64 a2)) (by kernel_rfl) hS (fun hHeld => ?_)
        (refine' anyT_tk 0 rfl ?_; (try simp only [Act.put, nY, nX])); (refine' anyT_tk 1 rfl ?_; (try simp only [Act.put, nY, nX])); (refine' anyT_tk 2 rfl ?_; (try simp only [Act.put, nY, nX])); (refine' anyT_tk 3 rfl ?_; (try simp only [Act.put, nY, nX])); (refine' anyT_tk 4 rfl ?_; (try simp only [Act.put, nY, nX])); (refine' anyT_tk 5 rfl ?_; (try simp only [Act.put, nY, nX])); (refine' anyT_tk 6 rfl ?_; (try simp only [Act.put, nY, nX])); (refine' anyT_tk 7 rfl ?_; (try simp only [Act.put, nY, nX]))
        clear hHeld hS f0 f1 g0 g1
        (refine anyT_sp 8 rfl (fun K' hK' => ?_); simp only [nY]; go_simp)
        have hbd : Below wr.heap.size wr wr.drew := (Below.refl _ _).drew
        refine (r29Rows_c A2 A2' n2 n2' c2 c2' _ _ wr.drew (HFI.out.below hbd rr) (HFJ.out.below hbd rr)).mono ?_
        rintro e wd ⟨rfl, hbe⟩
        rw [World.size_drew] at hbe
        rw [decide_eq_false hrr]
        have hbf := hbd.trans hbe
        have hS := HSB.out _ hbf
        refine hK' _ _ ⟨.inr hS, fun _ => ?_⟩
        clear hK' K' hbd hbe
        (try simp only [Act.put, nY, nX])
        (refine' anyT_tk 9 rfl ?_; (try simp only [Act.put, nY, nX]))
        refine' anyT_take (i := 10) (v := undef) rfl (by as_aux_lemma => kernel_rfl) (by as_aux_lemma => kernel_rfl) (by as_aux_lemma => kernel_rfl) (by as_aux_lemma => kernel_rfl) (fun _ _ _ h => h) (Or.inr ⟨by as_aux_lemma => kernel_rfl, rfl⟩) hS ?_
        (try simp only [Act.put, nY, nX])
        refine' anyT_take (i := 11) (v := undef) rfl (by as_aux_lemma => kernel_rfl) (by as_aux_lemma => kernel_rfl) (by as_aux_lemma => kernel_rfl) (by as_aux_lemma => kernel_rfl) (fun _ _ _ h => h) (Or.inr ⟨by as_aux_lemma => kernel_rfl, rfl⟩) hS ?_
        (try simp only [Act.put, nY, nX])
        refine' anyT_take (i := 12) (v := undef) rfl (by as_aux_lemma => kernel_rfl) (by as_aux_lemma => kernel_rfl) (by as_aux_lemma => kernel_rfl) (by as_aux_lemma => kernel_rfl) (fun _ _ _ h => h) (Or.inr ⟨by as_aux_lemma => kernel_rfl, rfl⟩) hS ?_
        (try simp only [Act.put, nY, nX])
        refine' anyT_take (i := 13) (v := undef) rfl (by as_aux_lemma => kernel_rfl) (by as_aux_lemma => kernel_rfl) (by as_aux_lemma => kernel_rfl) (by as_aux_lemma => kernel_rfl) (fun _ _ _ h => h) (Or.inr ⟨by as_aux_lemma => kernel_rfl, rfl⟩) hS ?_
        (try simp only [Act.put, nY, nX])
        refine' anyT_take (i := 14) (v := undef) rfl (by as_aux_lemma => kernel_rfl) (by as_aux_lemma => kernel_rfl) (by as_aux_lemma => kernel_rfl) (by as_aux_lemma => kernel_rfl) (fun _ _ _ h => h) (Or.inr ⟨by as_aux_lemma => kernel_rfl, rfl⟩) hS ?_
        (try simp only [Act.put, nY, nX])
        refine' anyT_take (i := 15) (v := undef) rfl (by as_aux_lemma => kernel_rfl) (by as_aux_lemma => kernel_rfl) (by as_aux_lemma => kernel_rfl) (by as_aux_lemma => kernel_rfl) (fun _ _ _ h => h) (Or.inr ⟨by as_aux_lemma => kernel_rfl, rfl⟩) hS ?_
        (try simp only [Act.put, nY, nX])
        refine' anyT_take (i := 16) (v := undef) rfl (by as_aux_lemma => kernel_rfl) (by as_aux_lemma => kernel_rfl) (by as_aux_lemma => kernel_rfl) (by as_aux_lemma => kernel_rfl) (fun _ _ _ h => h) (Or.inr ⟨by as_aux_lemma => kernel_rfl, rfl⟩) hS ?_
        (try simp only [Act.put, nY, nX])
        refine' anyT_take (i := 17) (v := undef) rfl (by as_aux_lemma => kernel_rfl) (by as_aux_lemma => kernel_rfl) (by as_aux_lemma => kernel_rfl) (by as_aux_lemma => kernel_rfl) (fun _ _ _ h => h) (Or.inr ⟨by as_aux_lemma => kernel_rfl, rfl⟩) hS ?_
        (try simp only [Act.put, nY, nX])
        refine' anyT_take (i := 18) (v := undef) rfl (by as_aux_lemma => kernel_rfl) (by as_aux_lemma => kernel_rfl) (by as_aux_lemma => kernel_rfl) (by as_aux_lemma => kernel_rfl) (fun _ _ _ h => h) (Or.inr ⟨by as_aux_lemma => kernel_rfl, rfl⟩) hS ?_
        (try simp only [Act.put, nY, nX])
        (refine anyT_sp 19 rfl (fun K' hK' => ?_); simp only [nY]; go_simp)
        refine hK' _ _ ⟨.inl (by kernel_rfl), fun _ => anyT_done (by kernel_rfl) ?_ _⟩
        clear hK' K' hS
        have HBF := hI hbf
        have HB7 := hI (hB6.trans (hbf.mono hB6.size))
        clear hbf
        by_cases hki : hasK ri = true
        ·rw [if_pos hki] at hei
         by_cases hkj : hasK rj = true
         ·rw [if_pos hkj] at hej
          have HEI := hI hei
          have HEJ := hI hej
          clear hei hej
          go_wp2_with fail
          refine (pEndings_c A7 n8 c7 _ i _ (HP74.out.below HB7.out rr) (by omega)).mono ?_
          rw [HEI.out]
          rintro e we ⟨Ae, ne, ce, rfl, hoe, hbe⟩
          have HBE := hI (HB7.out.trans (hbe.mono HB7.out.size))
          have HBFE := hI (HBF.out.trans (hbe.mono HBF.out.size))
          have HFE := hI hoe.forms
          clear hoe hbe
          go_wp2_with fail
          refine (pEndings_c A7 n8 c7 _ j we (HP74.out.below HBE.out rr) (by omega)).mono ?_
          rw [HEJ.out]
          rintro e wf ⟨Af, nf, cf, rfl, hof, hbf⟩
          have HBG := hI (HBE.out.trans (hbf.mono HBE.out.size))
          have HBFG := hI (HBFE.out.trans (hbf.mono HBFE.out.size))
          have HFE2 := hI (HFE.out.below hbf rr)
          have HFF := hI hof.forms
          have hS := HSB.out _ HBFG.out
          clear hof hbf
          by_cases hend : endsOf ri = endsOf rj
          ·obtain rfl : a1 = a2 := HIFF.out.2 hend
           have hab : (a1 == a1) = true := by simp
           go_wp2_with fail
           refine plain_region (fun W' => W'.cell? ⟨b3, off3 + i, none⟩ = some (.slice A2 n2 c2) ∧ W'.cell? ⟨b3, off3 + j, none⟩ = some (.slice A2' n2' c2') ∧ W'.cell? ⟨b5, off5 + i, none⟩ = some (.int .i64 a1) ∧ W'.cell? ⟨b5, off5 + j, none⟩ = some (.int .i64 a1)) (by kernel_rfl) hS (fun hHeld => ?_)
           (refine' anyT_tk 0 rfl ?_; (try simp only [Act.put, nY, nX])); (refine' anyT_tk 1 rfl ?_; (try simp only [Act.put, nY, nX])); (refine' anyT_tk 2 rfl ?_; (try simp only [Act.put, nY, nX])); (refine' anyT_tk 3 rfl ?_; (try simp only [Act.put, nY, nX])); (refine' anyT_tk 4 rfl ?_; (try simp only [Act.put, nY, nX])); (refine' anyT_tk 5 rfl ?_; (try simp only [Act.put, nY, nX])); (refine' anyT_tk 6 rfl ?_; (try simp only [Act.put, nY, nX])); (refine' anyT_tk 7 rfl ?_; (try simp only [Act.put, nY, nX])); (refine' anyT_tk 8 rfl ?_; (try simp only [Act.put, nY, nX]))
           (refine' anyT_tk 9 rfl ?_; (try simp only [Act.put, nY, nX])); (refine' anyT_tk 10 rfl ?_; (try simp only [Act.put, nY, nX])); (refine' anyT_tk 11 rfl ?_; (try simp only [Act.put, nY, nX])); (refine' anyT_tk 12 rfl ?_; (try simp only [Act.put, nY, nX])); (refine' anyT_tk 13 rfl ?_; (try simp only [Act.put, nY, nX])); (refine' anyT_tk 14 rfl ?_; (try simp only [Act.put, nY, nX])); (refine' anyT_tk 15 rfl ?_; (try simp only [Act.put, nY, nX])); (refine' anyT_tk 16 rfl ?_; (try simp only [Act.put, nY, nX])); (refine' anyT_tk 17 rfl ?_; (try simp only [Act.put, nY, nX]))
           clear hHeld hS
           (refine anyT_sp 18 rfl (fun K' hK' => ?_); simp only [nY]; go_simp)
           have hbd : Below wf.heap.size wf wf.drew := (Below.refl _ _).drew
           refine (r29Rows_c Ae Af ne nf ce cf (endsOf ri) (endsOf rj) wf.drew (HFE2.out.below hbd rr) (HFF.out.below hbd rr)).mono ?_
           rintro e wd ⟨rfl, hbe⟩
           rw [World.size_drew] at hbe
           have hbf := hbd.trans hbe
           rw [show decide (endsOf ri = endsOf rj) = true from decide_eq_true hend]
           have HBH := hI (HBFG.out.trans (hbf.mono HBFG.out.size))
           have hS := HSB.out _ HBH.out
           refine hK' _ _ ⟨.inr hS, fun _ => ?_⟩
           clear hK' K' hbd hbe
           (try simp only [Act.put, nY, nX])
           (refine' anyT_tk 19 rfl ?_; (try simp only [Act.put, nY, nX])); (refine' anyT_tk 20 rfl ?_; (try simp only [Act.put, nY, nX]))
           (refine anyT_sp 21 rfl (fun K' hK' => ?_); simp only [nY]; go_simp)
           refine hK' _ _ ⟨.inl (by kernel_rfl), fun _ => anyT_done (by kernel_rfl) ?_ _⟩
           clear hK' K' hS
           go_wp2
           go_roundw
           case rel => exact ⟨j + 1, by go_num, by omega, (HBG.out.trans (hbf.mono HBG.out.size))⟩
           case measure => simp [intOf]; omega
          ·have hab : (a1 == a2) = false := by
            rw [beq_eq_false_iff_ne]; exact fun e => hend (HIFF.out.1 e)
           go_wp2_with fail
           refine plain_region (fun W' => W'.cell? ⟨b3, off3 + i, none⟩ = some (.slice A2 n2 c2) ∧ W'.cell? ⟨b3, off3 + j, none⟩ = some (.slice A2' n2' c2') ∧ W'.cell? ⟨b5, off5 + i, none⟩ = some (.int .i64 a1) ∧ W'.cell? ⟨b5, off5 + j, none⟩ = some (.int .i64 a2)) (by kernel_rfl) hS (fun hHeld => ?_)
           (refine' anyT_tk 0 rfl ?_; (try simp only [Act.put, nY, nX])); (refine' anyT_tk 1 rfl ?_; (try simp only [Act.put, nY, nX])); (refine' anyT_tk 2 rfl ?_; (try simp only [Act.put, nY, nX])); (refine' anyT_tk 3 rfl ?_; (try simp only [Act.put, nY, nX])); (refine' anyT_tk 4 rfl ?_; (try simp only [Act.put, nY, nX])); (refine' anyT_tk 5 rfl ?_; (try simp only [Act.put, nY, nX])); (refine' anyT_tk 6 rfl ?_; (try simp only [Act.put, nY, nX])); (refine' anyT_tk 7 rfl ?_; (try simp only [Act.put, nY, nX])); (refine' anyT_tk 8 rfl ?_; (try simp only [Act.put, nY, nX]))
           (refine' anyT_tk 9 rfl ?_; (try simp only [Act.put, nY, nX])); (refine' anyT_tk 10 rfl ?_; (try simp only [Act.put, nY, nX])); (refine' anyT_tk 11 rfl ?_; (try simp only [Act.put, nY, nX])); (refine' anyT_tk 12 rfl ?_; (try simp only [Act.put, nY, nX])); (refine' anyT_tk 13 rfl ?_; (try simp only [Act.put, nY, nX])); (refine' anyT_tk 14 rfl ?_; (try simp only [Act.put, nY, nX])); (refine' anyT_tk 15 rfl ?_; (try simp only [Act.put, nY, nX])); (refine' anyT_tk 16 rfl ?_; (try simp only [Act.put, nY, nX])); (refine' anyT_tk 17 rfl ?_; (try simp only [Act.put, nY, nX]))
           clear hHeld hS
           (refine anyT_sp 18 rfl (fun K' hK' => ?_); simp only [nY]; go_simp)
           have hbd : Below wf.heap.size wf wf.drew := (Below.refl _ _).drew
           refine (r29Rows_c Ae Af ne nf ce cf (endsOf ri) (endsOf rj) wf.drew (HFE2.out.below hbd rr) (HFF.out.below hbd rr)).mono ?_
           rintro e wd ⟨rfl, hbe⟩
           rw [World.size_drew] at hbe
           have hbf := hbd.trans hbe
           rw [show decide (endsOf ri = endsOf rj) = false from decide_eq_false hend]
           have HBH := hI (HBFG.out.trans (hbf.mono HBFG.out.size))
           have hS := HSB.out _ HBH.out
           refine hK' _ _ ⟨.inr hS, fun _ => ?_⟩
           clear hK' K' hbd hbe
           (try simp only [Act.put, nY, nX])
           (refine' anyT_tk 19 rfl ?_; (try simp only [Act.put, nY, nX])); (refine' anyT_tk 20 rfl ?_; (try simp only [Act.put, nY, nX]))
           (refine anyT_sp 21 rfl (fun K' hK' => ?_); simp only [nY]; go_simp)
           refine hK' _ _ ⟨.inl (by kernel_rfl), fun _ => anyT_done (by kernel_rfl) ?_ _⟩
           clear hK' K' hS
           go_wp2
           go_roundw
           case rel => exact ⟨j + 1, by go_num, by omega, (HBG.out.trans (hbf.mono HBG.out.size))⟩
           case measure => simp [intOf]; omega
         ·rw [if_neg hkj] at hej
          have hab : (a1 == a2) = false := by
           rw [beq_eq_false_iff_ne]; exact fun e => hkj (by rw [← HKI.out (HIFF.out.1 e)]; exact hki)
          have HEI := hI hei
          have HEJ := hI hej
          clear hei hej
          go_wp2_with fail
          refine (pEndings_c A7 n8 c7 _ i _ (HP74.out.below HB7.out rr) (by omega)).mono ?_
          rw [HEI.out]
          rintro e we ⟨Ae, ne, ce, rfl, hoe, hbe⟩
          have HBE := hI (HB7.out.trans (hbe.mono HB7.out.size))
          have HBFE := hI (HBF.out.trans (hbe.mono HBF.out.size))
          have HFE := hI hoe.forms
          clear hoe hbe
          go_wp2_with fail
          refine (pEndings_c A7 n8 c7 _ j we (HP74.out.below HBE.out rr) (by omega)).mono ?_
          rw [HEJ.out]
          rintro e wf ⟨Af, nf, cf, rfl, hof, hbf⟩
          have HBG := hI (HBE.out.trans (hbf.mono HBE.out.size))
          have HBFG := hI (HBFE.out.trans (hbf.mono HBFE.out.size))
          have HFE2 := hI (HFE.out.below hbf rr)
          have HFF := hI hof.forms
          have hS := HSB.out _ HBFG.out
          clear hof hbf
          go_wp2_with fail
          refine plain_region (fun W' => W'.cell? ⟨b3, off3 + i, none⟩ = some (.slice A2 n2 c2) ∧ W'.cell? ⟨b3, off3 + j, none⟩ = some (.slice A2' n2' c2') ∧ W'.cell? ⟨b5, off5 + i, none⟩ = some (.int .i64 a1) ∧ W'.cell? ⟨b5, off5 + j, none⟩ = some (.int .i64 a2)) (by kernel_rfl) hS (fun hHeld => ?_)
          (refine' anyT_tk 0 rfl ?_; (try simp only [Act.put, nY, nX])); (refine' anyT_tk 1 rfl ?_; (try simp only [Act.put, nY, nX])); (refine' anyT_tk 2 rfl ?_; (try simp only [Act.put, nY, nX])); (refine' anyT_tk 3 rfl ?_; (try simp only [Act.put, nY, nX])); (refine' anyT_tk 4 rfl ?_; (try simp only [Act.put, nY, nX])); (refine' anyT_tk 5 rfl ?_; (try simp only [Act.put, nY, nX])); (refine' anyT_tk 6 rfl ?_; (try simp only [Act.put, nY, nX])); (refine' anyT_tk 7 rfl ?_; (try simp only [Act.put, nY, nX])); (refine' anyT_tk 8 rfl ?_; (try simp only [Act.put, nY, nX]))
          (refine' anyT_tk 9 rfl ?_; (try simp only [Act.put, nY, nX])); (refine' anyT_tk 10 rfl ?_; (try simp only [Act.put, nY, nX])); (refine' anyT_tk 11 rfl ?_; (try simp only [Act.put, nY, nX])); (refine' anyT_tk 12 rfl ?_; (try simp only [Act.put, nY, nX]))
          refine' anyT_take (i := 13) (v := undef) rfl (by as_aux_lemma => kernel_rfl) (by as_aux_lemma => kernel_rfl) (by as_aux_lemma => kernel_rfl) (by as_aux_lemma => kernel_rfl) (fun _ _ _ h => h) (Or.inr ⟨by as_aux_lemma => kernel_rfl, rfl⟩) hS ?_
          (try simp only [Act.put, nY, nX])
          refine' anyT_take (i := 14) (v := undef) rfl (by as_aux_lemma => kernel_rfl) (by as_aux_lemma => kernel_rfl) (by as_aux_lemma => kernel_rfl) (by as_aux_lemma => kernel_rfl) (fun _ _ _ h => h) (Or.inr ⟨by as_aux_lemma => kernel_rfl, rfl⟩) hS ?_
          (try simp only [Act.put, nY, nX])
          refine' anyT_take (i := 15) (v := undef) rfl (by as_aux_lemma => kernel_rfl) (by as_aux_lemma => kernel_rfl) (by as_aux_lemma => kernel_rfl) (by as_aux_lemma => kernel_rfl) (fun _ _ _ h => h) (Or.inr ⟨by as_aux_lemma => kernel_rfl, rfl⟩) hS ?_
          (try simp only [Act.put, nY, nX])
          refine' anyT_take (i := 16) (v := undef) rfl (by as_aux_lemma => kernel_rfl) (by as_aux_lemma => kernel_rfl) (by as_aux_lemma => kernel_rfl) (by as_aux_lemma => kernel_rfl) (fun _ _ _ h => h) (Or.inr ⟨by as_aux_lemma => kernel_rfl, rfl⟩) hS ?_
          (try simp only [Act.put, nY, nX])
          refine' anyT_take (i := 17) (v := undef) rfl (by as_aux_lemma => kernel_rfl) (by as_aux_lemma => kernel_rfl) (by as_aux_lemma => kernel_rfl) (by as_aux_lemma => kernel_rfl) (fun _ _ _ h => h) (Or.inr ⟨by as_aux_lemma => kernel_rfl, rfl⟩) hS ?_
          (try simp only [Act.put, nY, nX])
          refine' anyT_take (i := 18) (v := undef) rfl (by as_aux_lemma => kernel_rfl) (by as_aux_lemma => kernel_rfl) (by as_aux_lemma => kernel_rfl) (by as_aux_lemma => kernel_rfl) (fun _ _ _ h => h) (Or.inr ⟨by as_aux_lemma => kernel_rfl, rfl⟩) hS ?_
          (try simp only [Act.put, nY, nX])
          refine' anyT_take (i := 19) (v := undef) rfl (by as_aux_lemma => kernel_rfl) (by as_aux_lemma => kernel_rfl) (by as_aux_lemma => kernel_rfl) (by as_aux_lemma => kernel_rfl) (fun _ _ _ h => h) (Or.inr ⟨by as_aux_lemma => kernel_rfl, rfl⟩) hS ?_
          (try simp only [Act.put, nY, nX])
          (refine' anyT_tk 20 rfl ?_; (try simp only [Act.put, nY, nX]))
          (refine anyT_sp 21 rfl (fun K' hK' => ?_); simp only [nY]; go_simp)
          refine hK' _ _ ⟨.inl (by kernel_rfl), fun _ => anyT_done (by kernel_rfl) ?_ _⟩
          clear hK' K' hS
          go_wp2
          go_roundw
          case rel => exact ⟨j + 1, by go_num, by omega, HBG.out.drew⟩
          case measure => simp [intOf]; omega
        ·rw [if_neg hki] at hei
         by_cases hkj : hasK rj = true
         ·rw [if_pos hkj] at hej
          have hab : (a1 == a2) = false := by
           rw [beq_eq_false_iff_ne]; exact fun e => hki (by rw [HKI.out (HIFF.out.1 e)]; exact hkj)
          have HEI := hI hei
          have HEJ := hI hej
          clear hei hej
          go_wp2_with fail
          refine (pEndings_c A7 n8 c7 _ i _ (HP74.out.below HB7.out rr) (by omega)).mono ?_
          rw [HEI.out]
          rintro e we ⟨Ae, ne, ce, rfl, hoe, hbe⟩
          have HBE := hI (HB7.out.trans (hbe.mono HB7.out.size))
          have HBFE := hI (HBF.out.trans (hbe.mono HBF.out.size))
          have HFE := hI hoe.forms
          clear hoe hbe
          go_wp2_with fail
          refine (pEndings_c A7 n8 c7 _ j we (HP74.out.below HBE.out rr) (by omega)).mono ?_
          rw [HEJ.out]
          rintro e wf ⟨Af, nf, cf, rfl, hof, hbf⟩
          have HBG := hI (HBE.out.trans (hbf.mono HBE.out.size))
          have HBFG := hI (HBFE.out.trans (hbf.mono HBFE.out.size))
          have HFE2 := hI (HFE.out.below hbf rr)
          have HFF := hI hof.forms
          have hS := HSB.out _ HBFG.out
          clear hof hbf
          go_wp2_with fail
          refine plain_region (fun W' => W'.cell? ⟨b3, off3 + i, none⟩ = some (.slice A2 n2 c2) ∧ W'.cell? ⟨b3, off3 + j, none⟩ = some (.slice A2' n2' c2') ∧ W'.cell? ⟨b5, off5 + i, none⟩ = some (.int .i64 a1) ∧ W'.cell? ⟨b5, off5 + j, none⟩ = some (.int .i64 a2)) (by kernel_rfl) hS (fun hHeld => ?_)
          (refine' anyT_tk 0 rfl ?_; (try simp only [Act.put, nY, nX])); (refine' anyT_tk 1 rfl ?_; (try simp only [Act.put, nY, nX])); (refine' anyT_tk 2 rfl ?_; (try simp only [Act.put, nY, nX])); (refine' anyT_tk 3 rfl ?_; (try simp only [Act.put, nY, nX])); (refine' anyT_tk 4 rfl ?_; (try simp only [Act.put, nY, nX])); (refine' anyT_tk 5 rfl ?_; (try simp only [Act.put, nY, nX])); (refine' anyT_tk 6 rfl ?_; (try simp only [Act.put, nY, nX])); (refine' anyT_tk 7 rfl ?_; (try simp only [Act.put, nY, nX])); (refine' anyT_tk 8 rfl ?_; (try simp only [Act.put, nY, nX]))
          (refine' anyT_tk 9 rfl ?_; (try simp only [Act.put, nY, nX])); (refine' anyT_tk 10 rfl ?_; (try simp only [Act.put, nY, nX])); (refine' anyT_tk 11 rfl ?_; (try simp only [Act.put, nY, nX])); (refine' anyT_tk 12 rfl ?_; (try simp only [Act.put, nY, nX]))
          refine' anyT_take (i := 13) (v := undef) rfl (by as_aux_lemma => kernel_rfl) (by as_aux_lemma => kernel_rfl) (by as_aux_lemma => kernel_rfl) (by as_aux_lemma => kernel_rfl) (fun _ _ _ h => h) (Or.inr ⟨by as_aux_lemma => kernel_rfl, rfl⟩) hS ?_
          (try simp only [Act.put, nY, nX])
          refine' anyT_take (i := 14) (v := undef) rfl (by as_aux_lemma => kernel_rfl) (by as_aux_lemma => kernel_rfl) (by as_aux_lemma => kernel_rfl) (by as_aux_lemma => kernel_rfl) (fun _ _ _ h => h) (Or.inr ⟨by as_aux_lemma => kernel_rfl, rfl⟩) hS ?_
          (try simp only [Act.put, nY, nX])
          refine' anyT_take (i := 15) (v := undef) rfl (by as_aux_lemma => kernel_rfl) (by as_aux_lemma => kernel_rfl) (by as_aux_lemma => kernel_rfl) (by as_aux_lemma => kernel_rfl) (fun _ _ _ h => h) (Or.inr ⟨by as_aux_lemma => kernel_rfl, rfl⟩) hS ?_
          (try simp only [Act.put, nY, nX])
          refine' anyT_take (i := 16) (v := undef) rfl (by as_aux_lemma => kernel_rfl) (by as_aux_lemma => kernel_rfl) (by as_aux_lemma => kernel_rfl) (by as_aux_lemma => kernel_rfl) (fun _ _ _ h => h) (Or.inr ⟨by as_aux_lemma => kernel_rfl, rfl⟩) hS ?_
          (try simp only [Act.put, nY, nX])
          refine' anyT_take (i := 17) (v := undef) rfl (by as_aux_lemma => kernel_rfl) (by as_aux_lemma => kernel_rfl) (by as_aux_lemma => kernel_rfl) (by as_aux_lemma => kernel_rfl) (fun _ _ _ h => h) (Or.inr ⟨by as_aux_lemma => kernel_rfl, rfl⟩) hS ?_
          (try simp only [Act.put, nY, nX])
          refine' anyT_take (i := 18) (v := undef) rfl (by as_aux_lemma => kernel_rfl) (by as_aux_lemma => kernel_rfl) (by as_aux_lemma => kernel_rfl) (by as_aux_lemma => kernel_rfl) (fun _ _ _ h => h) (Or.inr ⟨by as_aux_lemma => kernel_rfl, rfl⟩) hS ?_
          (try simp only [Act.put, nY, nX])
          refine' anyT_take (i := 19) (v := undef) rfl (by as_aux_lemma => kernel_rfl) (by as_aux_lemma => kernel_rfl) (by as_aux_lemma => kernel_rfl) (by as_aux_lemma => kernel_rfl) (fun _ _ _ h => h) (Or.inr ⟨by as_aux_lemma => kernel_rfl, rfl⟩) hS ?_
          (try simp only [Act.put, nY, nX])
          (refine' anyT_tk 20 rfl ?_; (try simp only [Act.put, nY, nX]))
          (refine anyT_sp 21 rfl (fun K' hK' => ?_); simp only [nY]; go_simp)
          refine hK' _ _ ⟨.inl (by kernel_rfl), fun _ => anyT_done (by kernel_rfl) ?_ _⟩
          clear hK' K' hS
          go_wp2
          go_roundw
          case rel => exact ⟨j + 1, by go_num, by omega, HBG.out.drew⟩
          case measure => simp [intOf]; omega
         ·rw [if_neg hkj] at hej
          have hend : endsOf ri = endsOf rj := (HNI.out (by simpa using hki)).trans (HNJ.out (by simpa using hkj)).symm
          obtain rfl : a1 = a2 := HIFF.out.2 hend
          have hab : (a1 == a1) = true := by simp
          have HEI := hI hei
          have HEJ := hI hej
          clear hei hej
          go_wp2_with fail
          refine (pEndings_c A7 n8 c7 _ i _ (HP74.out.below HB7.out rr) (by omega)).mono ?_
          rw [HEI.out]
          rintro e we ⟨Ae, ne, ce, rfl, hoe, hbe⟩
          have HBE := hI (HB7.out.trans (hbe.mono HB7.out.size))
          have HBFE := hI (HBF.out.trans (hbe.mono HBF.out.size))
          have HFE := hI hoe.forms
          clear hoe hbe
          go_wp2_with fail
          refine (pEndings_c A7 n8 c7 _ j we (HP74.out.below HBE.out rr) (by omega)).mono ?_
          rw [HEJ.out]
          rintro e wf ⟨Af, nf, cf, rfl, hof, hbf⟩
          have HBG := hI (HBE.out.trans (hbf.mono HBE.out.size))
          have HBFG := hI (HBFE.out.trans (hbf.mono HBFE.out.size))
          have HFE2 := hI (HFE.out.below hbf rr)
          have HFF := hI hof.forms
          have hS := HSB.out _ HBFG.out
          clear hof hbf
          go_wp2_with fail
          refine plain_region (fun W' => W'.cell? ⟨b3, off3 + i, none⟩ = some (.slice A2 n2 c2) ∧ W'.cell? ⟨b3, off3 + j, none⟩ = some (.slice A2' n2' c2') ∧ W'.cell? ⟨b5, off5 + i, none⟩ = some (.int .i64 a1) ∧ W'.cell? ⟨b5, off5 + j, none⟩ = some (.int .i64 a1)) (by kernel_rfl) hS (fun hHeld => ?_)
          (refine' anyT_tk 0 rfl ?_; (try simp only [Act.put, nY, nX])); (refine' anyT_tk 1 rfl ?_; (try simp only [Act.put, nY, nX])); (refine' anyT_tk 2 rfl ?_; (try simp only [Act.put, nY, nX])); (refine' anyT_tk 3 rfl ?_; (try simp only [Act.put, nY, nX])); (refine' anyT_tk 4 rfl ?_; (try simp only [Act.put, nY, nX])); (refine' anyT_tk 5 rfl ?_; (try simp only [Act.put, nY, nX])); (refine' anyT_tk 6 rfl ?_; (try simp only [Act.put, nY, nX])); (refine' anyT_tk 7 rfl ?_; (try simp only [Act.put, nY, nX])); (refine' anyT_tk 8 rfl ?_; (try simp only [Act.put, nY, nX]))
          (refine' anyT_tk 9 rfl ?_; (try simp only [Act.put, nY, nX])); (refine' anyT_tk 10 rfl ?_; (try simp only [Act.put, nY, nX])); (refine' anyT_tk 11 rfl ?_; (try simp only [Act.put, nY, nX])); (refine' anyT_tk 12 rfl ?_; (try simp only [Act.put, nY, nX])); (refine' anyT_tk 13 rfl ?_; (try simp only [Act.put, nY, nX])); (refine' anyT_tk 14 rfl ?_; (try simp only [Act.put, nY, nX])); (refine' anyT_tk 15 rfl ?_; (try simp only [Act.put, nY, nX]))
          refine' anyT_take (i := 16) (v := undef) rfl (by as_aux_lemma => kernel_rfl) (by as_aux_lemma => kernel_rfl) (by as_aux_lemma => kernel_rfl) (by as_aux_lemma => kernel_rfl) (fun _ _ _ h => h) (Or.inr ⟨by as_aux_lemma => kernel_rfl, rfl⟩) hS ?_
          (try simp only [Act.put, nY, nX])
          refine' anyT_take (i := 17) (v := undef) rfl (by as_aux_lemma => kernel_rfl) (by as_aux_lemma => kernel_rfl) (by as_aux_lemma => kernel_rfl) (by as_aux_lemma => kernel_rfl) (fun _ _ _ h => h) (Or.inr ⟨by as_aux_lemma => kernel_rfl, rfl⟩) hS ?_
          (try simp only [Act.put, nY, nX])
          refine' anyT_take (i := 18) (v := undef) rfl (by as_aux_lemma => kernel_rfl) (by as_aux_lemma => kernel_rfl) (by as_aux_lemma => kernel_rfl) (by as_aux_lemma => kernel_rfl) (fun _ _ _ h => h) (Or.inr ⟨by as_aux_lemma => kernel_rfl, rfl⟩) hS ?_
          (try simp only [Act.put, nY, nX])
          (refine' anyT_tk 19 rfl ?_; (try simp only [Act.put, nY, nX])); (refine' anyT_tk 20 rfl ?_; (try simp only [Act.put, nY, nX]))
          (refine anyT_sp 21 rfl (fun K' hK' => ?_); simp only [nY]; go_simp)
          refine hK' _ _ ⟨.inl (by kernel_rfl), fun _ => anyT_done (by kernel_rfl) ?_ _⟩
          clear hK' K' hS
          go_wp2
          go_roundw
          case rel => exact ⟨j + 1, by go_num, by omega, HBG.out.drew⟩
          case measure => simp [intOf]; omega
      ·have hj1 : ¬ (j : Int) < (i : Int) := by omega
       go_wp2
       go_roundw
       case rel => exact ⟨i + 1, by go_num, by omega, hB6⟩
       case measure => simp [intOf]; omega
    ·have hi1 : ¬ (i : Int) < (n8 : Int) := by omega
     have hBB := HB1.out.trans (hBB5.mono HB1.out.size)
     go_wp2_with fail
     refine (works29_c _ (HT.out.below hBB rr)).mono ?_
     rintro e w9 ⟨rfl, hbw⟩
     go_wp2
     go_ret
     exact ⟨rfl, hBB.trans (hbw.mono hBB.size)⟩
end Go.Proofs.YtcpcojgmmpnkoaaGreatDoor

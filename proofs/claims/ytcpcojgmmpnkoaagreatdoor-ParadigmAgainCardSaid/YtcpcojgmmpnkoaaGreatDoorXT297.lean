/-
  ablautlaw29.ParadigmAgain is true.
-/
import Derived.Test.YtcpcojgmmpnkoaaGreatDoorG76
import Derived.Test.YtcpcojgmmpnkoaaGreatDoorG67
set_option linter.all false
set_option maxRecDepth 100000
set_option maxHeartbeats 4000000
namespace Go.Proofs.YtcpcojgmmpnkoaaGreatDoor
open Go.RowKit Go.Shelf
theorem filter_no {α : Type} {p : α → Bool} {l : List α} {i : Nat} {x : α} (h : l[i]? = some x) (hp : p x = false) : (l.take (i + 1)).filter p = (l.take i).filter p := by
 rw [take_snoc' l i x h, List.filter_append, List.filter_cons_of_neg (by simp [hp])]; simp
theorem filter_yes {α : Type} {p : α → Bool} {l : List α} {i : Nat} {x : α} (h : l[i]? = some x) (hp : p x = true) : (l.take (i + 1)).filter p = (l.take i).filter p ++ [x] := by
 rw [take_snoc' l i x h, List.filter_append, List.filter_cons_of_pos hp]; simp
theorem allGo_drop {l : List Frm} {k : Nat} {x : Frm} {f : Option Snd} {a : Bool} (h : l[k]? = some x) : allGo (l.drop k) f a = allGo (x :: l.drop (k + 1)) f a := by
 obtain ⟨hk, hk'⟩ := List.getElem?_eq_some_iff.1 h
 rw [List.drop_eq_getElem_cons hk, hk']
def FirstAt (w : World) (f : Option Snd) (v : Value) : Prop := match f with | none => v = .slice none 0 0 | some s => ∃ a c, v = .slice (some a) 1 c ∧ IsWord w (some a) 1 c [s]
theorem FirstAt.below {w w' : World} {f : Option Snd} {v : Value} (h : FirstAt w f v) (hb : Below w.heap.size w w') : FirstAt w' f v := by
 cases f with
 | none => exact h
 | some s => obtain ⟨a, c, h1, h2⟩ := h; exact ⟨a, c, h1, h2.below hb rr⟩
theorem tri_k4 {w X : World} {v4 v5 v6 : Value} (hg : w.grownBy X v4.ownBlock) : Keep (triS v4 v5 v6) w X := (Keep.refl _ w).grown hg (fun k e => .inl (.inl e))
theorem tri_k5 {w X : World} {v4 v5 v6 : Value} (hg : w.grownBy X v5.ownBlock) : Keep (triS v4 v5 v6) w X := (Keep.refl _ w).grown hg (fun k e => .inl (.inr (.inl e)))
theorem tri_s4 {w : World} {v v4 v5 v6 : Value} (hat : v.ownBlock = v4.ownBlock ∨ v.ownBlock = some w.heap.size) : ∀ k, k < w.heap.size → triS v v5 v6 k → triS v4 v5 v6 k := fun k hlt e => by
 rcases e with e | e
 ·rcases hat with e' | e'
  ·exact .inl (e' ▸ e)
  ·rw [e'] at e; injection e with e; omega
 ·exact .inr e
theorem tri_s5 {w : World} {v v4 v5 v6 : Value} (hat : v.ownBlock = v5.ownBlock ∨ v.ownBlock = some w.heap.size) : ∀ k, k < w.heap.size → triS v4 v v6 k → triS v4 v5 v6 k := fun k hlt e => by
 rcases e with e | e | e
 ·exact .inl e
 ·rcases hat with e' | e'
  ·exact .inr (.inl (e' ▸ e))
  ·rw [e'] at e; injection e with e; omega
 ·exact .inr (.inr e)
theorem parAgain_c (A : Option Addr) (n c : Nat) (l : List Nat) (w : World) (hx : IsNums w A n c l) (hT : TabOK w) :
  Calls Tryz.prog 10 #[.slice A n c] w (RetTrue w) := by
 have hm := hx.max
 have HX := hI hx
 have HT := hI hT
 clear hx hT
 go_enter Tryz.func10, Tryz.ntmps10
 go_wp2_with fail
 refine (made_c A n c l w HX.out).mono ?_
 obtain ⟨T, hT⟩ : ∃ T, T = madeM l := ⟨_, rfl⟩
 rw [← hT]
 have HR4 : Hid (∀ r ∈ T, Row4 3 r) := by show ∀ r ∈ T, _; rw [hT]; exact made_rows l
 have hT8 : T.length ≤ 8 := by rw [hT]; exact made_len l
 have HPE : Hid (parE T = 0) := par_zero (by omega) (by omega) HR4.out
 clear hT
 rintro e w1 ⟨A1, n1, c1, rfl, hp1, hB1⟩
 have hn8 : n1 ≤ 8 := by rw [← hp1.len]; exact hT8
 have HP1 := hI hp1
 have HB1 := hI hB1
 clear hp1 hB1 hT8
 go_wp2_with fail
 go_loopw [4, 5, 6, 7] (fun v4 v5 v6 vi wr => ∃ (i : Nat) (rs : List RowR) (ps : List Part) (es : List RowR), vi = .int .i64 i ∧ i ≤ n1 ∧ Hid (Tri wr w1.heap.size v4 v5 v6 rs ps es) ∧ Hid (rs.map RowR.l = (T.take i).filter hasK) ∧ Hid (ps.map Part.word = ((T.take i).filter hasK).map fun r => stemW (stemK r)) ∧ Hid (es.map RowR.l = ((T.take i).filter hasK).map endsOf) ∧ rs.length ≤ i ∧ ps.length = rs.length ∧ es.length = rs.length ∧ Below w1.heap.size w1 wr) (fun _ _ _ vi _ => n1 - (intOf vi).toNat)
 case atStart => exact ⟨0, [], [], [], rfl, Nat.zero_le _, Tri.nil _, by simp [Hid], by simp [Hid], by simp [Hid], Nat.zero_le _, rfl, rfl, Below.refl _ _⟩
 case round =>
  obtain ⟨i, rs, ps, es, rfl, hi, htri, hd4, hd5, hd6, hrl, hpl, hel, hB⟩ := hrel
  have hBs := hB.size
  by_cases hlt : i < n1
  ·have hi1 : (i : Int) < (n1 : Int) := by omega
   obtain ⟨b, off, A2, n2, c2, r, rfl, hbl, hc1, hlk, hfl⟩ := HP1.out.at_ hlt
   have hrow := HR4.out r (List.mem_of_getElem? hlk)
   have hn4 : n2 = 4 := by rw [← hfl.len]; exact hrow.1
   subst hn4
   have HROW := hI hrow
   have HLK := hI hlk
   have HF := hI hfl
   have HC1 := hI hc1
   clear hrow hlk hfl hc1
   have HPEL := hI hpl
   have HEL := hI hel
   clear hpl hel
   obtain ⟨wi, hwi⟩ : ∃ wi, wi = wr := ⟨_, rfl⟩
   rw [← hwi] at htri hB hBs
   have HTRI := hI htri.out
   have HB := hI hB
   clear htri hB
   go_wp2_with fail
   rw [← hwi]
   clear hwi
   refine (pStem_c _ n1 c1 T i wi (HP1.out.below HB.out rr) (by omega)).mono ?_
   rw [pStem_row HPE.out HLK.out]
   by_cases hk : hasK r = true
   ·rw [if_pos hk]
    rintro e w2 ⟨A3, n3, c3, rfl, hw3, hb2, hf3⟩
    have HB2 := hI (HB.out.trans (hb2.mono hBs))
    go_wp2_with fail
    refine (pEndings_c _ n1 c1 T i w2 (HP1.out.below HB2.out rr) (by omega)).mono ?_
    rw [pEnds_row HPE.out HLK.out, if_pos hk]
    rintro e w3 ⟨A4, n4, c4, rfl, ho4, hb3⟩
    have HB3 := hI (HB2.out.trans (hb3.mono HB2.out.size))
    have hn4 : n4 = 4 := by rw [← ho4.forms.len]; exact (ends_row HROW.out).1
    subst hn4
    have HE := hI ho4.forms
    have HO4 := hI ho4
    have HW3 := hI (hw3.below hb3 rr)
    have hb23 := hb2.trans (hb3.mono hb2.size)
    have HB23 := hI hb23
    have HTRI2 := hI (HTRI.out.below hb2)
    have HF3 := hI hf3
    have HK := hI hk
    have hm3 := hw3.max
    have h33 : n3 ≤ 3 := by rw [← hw3.len]; exact (stem_row HROW.out).1
    clear ho4 hw3 hb2 hb3 hb23 hf3 hk
    go_wp2_with fail
    go_loopw [12, 13] (fun vm vk wx => ∃ k m : Nat, vk = .int .i64 k ∧ vm = .int .i64 m ∧ k ≤ 4 ∧ m ≤ k ∧ Hid (m = ((r.take k).filter fun x => x.1).length) ∧ Below w3.heap.size w3 wx) (fun _ vk _ => 4 - (intOf vk).toNat)
    case atStart => exact ⟨0, 0, rfl, rfl, Nat.zero_le _, rr, rfl, Below.refl _ _⟩
    case round =>
     obtain ⟨k, m, rfl, rfl, hk4, hmk, hcnt, hBx⟩ := hrel
     have hBBx := HB3.out.trans (hBx.mono HB3.out.size)
     have hd1 := (hBBx.cell (p := ⟨b, off + i, none⟩) hbl).trans HC1.out
     by_cases hltk : k < 4
     ·have hk1 : (k : Int) < (4 : Int) := by omega
      obtain ⟨b2, off2, h, A5, n5, c5, ws, rfl, hb2, e0, e1, hlj, hwj⟩ := HF.out.at_ hltk
      have d0 := (hBBx.cell (p := ⟨b2, off2 + k * 2, none⟩) hb2).trans e0
      have HLJ := hI hlj
      clear hlj hwj e0 e1
      cases h with
      | false =>
       have HN : Hid (m = ((r.take (k + 1)).filter fun x => x.1).length) := by show _ = _; rw [filter_no HLJ.out rfl]; exact hcnt.out
       go_wp2
       go_roundw
       case rel => exact ⟨k + 1, m, by go_num, by go_num, by omega, by omega, HN.out, hBx⟩
       case measure => simp [intOf]; omega
      | true =>
       have HN : Hid (m + 1 = ((r.take (k + 1)).filter fun x => x.1).length) := by show _ = _; rw [filter_yes HLJ.out rfl, List.length_append, ← hcnt.out]; rfl
       go_wp2
       go_roundw
       case rel => exact ⟨k + 1, m + 1, by go_num, by go_num, by omega, by omega, HN.out, hBx⟩
       case measure => simp [intOf]; omega
     ·have hk1 : ¬ (k : Int) < (4 : Int) := by omega
      have hcnt' : m = (r.filter fun x => x.1).length := by rw [hcnt.out, List.take_of_length_le (by rw [HROW.out.1]; omega)]
      clear hcnt hd1
      have hm0 : 0 < m := by
       rw [hcnt']
       obtain ⟨x, hx, h1⟩ := List.any_eq_true.1 HK.out
       exact List.length_pos_of_mem (List.mem_filter.2 ⟨hx, h1⟩)
      have hmz : ((m : Int) == 0) = false := by simp; omega
      clear hcnt'
      go_wp2_with fail
      clear hmz
      go_loopw [14, 15, 16] (fun vf va vk wx => ∃ (k : Nat) (f : Option Snd) (a : Bool), vk = .int .i64 k ∧ va = .bool a ∧ k ≤ 4 ∧ Hid (FirstAt wx f vf) ∧ Hid (allGo (endsOf r) none true = allGo ((endsOf r).drop k) f a) ∧ Below w3.heap.size w3 wx) (fun _ _ vk _ => 4 - (intOf vk).toNat)
      case atStart => exact ⟨0, none, true, rfl, rfl, Nat.zero_le _, rfl, rfl, hBx⟩
      case round =>
       obtain ⟨k, f, a, rfl, rfl, hk, hfa, hgo, hBx⟩ := hrel
       have hBBx := HB3.out.trans (hBx.mono HB3.out.size)
       have hBxs := hBx.size
       have hd1 := (hBBx.cell (p := ⟨b, off + i, none⟩) hbl).trans HC1.out
       by_cases hltk : k < 4
       ·have hk1 : (k : Int) < (4 : Int) := by omega
        obtain ⟨b2, off2, h', A6, n6, c6, ws, rfl, hb2, e00, e10, hlj, hwj⟩ := HF.out.at_ hltk
        obtain ⟨b4, off4, h, A5, n5, c5, es', rfl, hb4, g00, g10, hle, hwe⟩ := HE.out.at_ hltk
        obtain ⟨es2, hes, happ⟩ := ends_form hlj (HROW.out.2 _ (List.mem_of_getElem? hlj)).1
        rw [hle] at hes
        obtain ⟨rfl, rfl⟩ : h = h' ∧ es' = es2 := by simpa using hes
        have e0 := (hBBx.cell (p := ⟨b2, off2 + k * 2, none⟩) hb2).trans e00
        have e1 := (hBBx.cell (p := ⟨b2, off2 + k * 2 + 1, none⟩) hb2).trans e10
        have g0 := (hBx.cell (p := ⟨b4, off4 + k * 2, none⟩) hb4).trans g00
        have g1 := (hBx.cell (p := ⟨b4, off4 + k * 2 + 1, none⟩) hb4).trans g10
        have HD := hI (hgo.out.trans (allGo_drop hle))
        have HWJ := hI (hwj.below hBBx rr)
        have HWE := hI (hwe.below hBx rr)
        have hm5 := hwe.max
        have hl5 := hwe.len
        have h53 : n5 ≤ 3 := by rw [← hl5]; exact ((ends_row HROW.out).2 _ (List.mem_of_getElem? hle)).2.1
        have HAPP := hI happ
        have hbr : b < wr.heap.size := by have := hBBx.size; omega
        have hb2r : b2 < wr.heap.size := by have := hBBx.size; omega
        have hb4r : b4 < wr.heap.size := by omega
        have HL5 := hI hl5
        clear hes happ hlj hle hwj hwe e00 e10 g00 g10 hgo hl5
        cases h with
        | false =>
         have HN : Hid (allGo (endsOf r) none true = allGo ((endsOf r).drop (k + 1)) f a) := HD.out
         go_wp2_with fail
         go_quiet (fail)
         go_wp2
         go_roundw
         case rel => exact ⟨k + 1, f, a, by go_num, rfl, by omega, hfa.out.below ((Below.refl _ _).drewN _), HN.out, hBx.drewN _⟩
         case measure => simp [intOf]; omega
        | true =>
         have HBd := hI (Below.refl wr.heap.size wr).drew
         have HSB : Hid (∀ W : World, Below wr.heap.size wr W → W.cell? ⟨b4, off4 + k * 2, none⟩ = some (.bool true) ∧ W.cell? ⟨b4, off4 + k * 2 + 1, none⟩ = some (.slice A5 n5 c5) ∧ W.cell? ⟨b, off + i, none⟩ = some (.slice (some ⟨b2, off2, none⟩) 4 c2) ∧ W.cell? ⟨b2, off2 + k * 2, none⟩ = some (.bool true) ∧ W.cell? ⟨b2, off2 + k * 2 + 1, none⟩ = some (.slice A6 n6 c6)) := fun W hb => ⟨(hb.cell (p := ⟨b4, off4 + k * 2, none⟩) hb4r).trans g0, (hb.cell (p := ⟨b4, off4 + k * 2 + 1, none⟩) hb4r).trans g1, (hb.cell (p := ⟨b, off + i, none⟩) hbr).trans hd1, (hb.cell (p := ⟨b2, off2 + k * 2, none⟩) hb2r).trans e0, (hb.cell (p := ⟨b2, off2 + k * 2 + 1, none⟩) hb2r).trans e1⟩
         have hS := HSB.out wr (Below.refl _ _)
         go_wp2_with fail
         refine plain_region (fun W' => W'.cell? ⟨b4, off4 + k * 2, none⟩ = some (.bool true) ∧ W'.cell? ⟨b4, off4 + k * 2 + 1, none⟩ = some (.slice A5 n5 c5) ∧ W'.cell? ⟨b, off + i, none⟩ = some (.slice (some ⟨b2, off2, none⟩) 4 c2) ∧ W'.cell? ⟨b2, off2 + k * 2, none⟩ = some (.bool true) ∧ W'.cell? ⟨b2, off2 + k * 2 + 1, none⟩ = some (.slice A6 n6 c6)) (by kernel_rfl) hS (fun hHeld => ?_)
         (refine' anyT_tk 0 rfl ?_; (try simp only [Act.put, nY, nX])); (refine' anyT_tk 1 rfl ?_; (try simp only [Act.put, nY, nX])); (refine' anyT_tk 2 rfl ?_; (try simp only [Act.put, nY, nX])); (refine' anyT_tk 3 rfl ?_; (try simp only [Act.put, nY, nX])); (refine' anyT_tk 4 rfl ?_; (try simp only [Act.put, nY, nX])); (refine' anyT_tk 5 rfl ?_; (try simp only [Act.put, nY, nX])); (refine' anyT_tk 6 rfl ?_; (try simp only [Act.put, nY, nX])); (refine' anyT_tk 7 rfl ?_; (try simp only [Act.put, nY, nX])); (refine' anyT_tk 8 rfl ?_; (try simp only [Act.put, nY, nX])); (refine' anyT_tk 9 rfl ?_; (try simp only [Act.put, nY, nX])); (refine' anyT_tk 10 rfl ?_; (try simp only [Act.put, nY, nX])); (refine' anyT_tk 11 rfl ?_; (try simp only [Act.put, nY, nX])); (refine' anyT_tk 12 rfl ?_; (try simp only [Act.put, nY, nX])); (refine' anyT_tk 13 rfl ?_; (try simp only [Act.put, nY, nX])); (refine' anyT_tk 14 rfl ?_; (try simp only [Act.put, nY, nX])); (refine' anyT_tk 15 rfl ?_; (try simp only [Act.put, nY, nX])); (refine' anyT_tk 16 rfl ?_; (try simp only [Act.put, nY, nX])); (refine' anyT_tk 17 rfl ?_; (try simp only [Act.put, nY, nX])); (refine' anyT_tk 18 rfl ?_; (try simp only [Act.put, nY, nX])); (refine' anyT_tk 19 rfl ?_; (try simp only [Act.put, nY, nX])); (refine' anyT_tk 20 rfl ?_; (try simp only [Act.put, nY, nX])); (refine' anyT_tk 22 rfl ?_; (try simp only [Act.put, nY, nX])); (refine' anyT_tk 24 rfl ?_; (try simp only [Act.put, nY, nX])); (refine' anyT_tk 25 rfl ?_; (try simp only [Act.put, nY, nX])); (refine' anyT_tk 26 rfl ?_; (try simp only [Act.put, nY, nX])); (refine' anyT_tk 27 rfl ?_; (try simp only [Act.put, nY, nX])); (refine' anyT_tk 28 rfl ?_; (try simp only [Act.put, nY, nX])); (refine' anyT_tk 30 rfl ?_; (try simp only [Act.put, nY, nX])); (refine' anyT_tk 31 rfl ?_; (try simp only [Act.put, nY, nX])); (refine' anyT_tk 32 rfl ?_; (try simp only [Act.put, nY, nX])); (refine' anyT_tk 33 rfl ?_; (try simp only [Act.put, nY, nX])); (refine' anyT_tk 34 rfl ?_; (try simp only [Act.put, nY, nX])); (refine' anyT_tk 35 rfl ?_; (try simp only [Act.put, nY, nX])); (refine' anyT_tk 36 rfl ?_; (try simp only [Act.put, nY, nX])); (refine' anyT_tk 37 rfl ?_; (try simp only [Act.put, nY, nX]))
         clear hHeld hd1 e0 e1 g0 g1 hS
         (refine anyT_sp 21 rfl (fun K' hK' => ?_); simp only [nY]; go_simp)
         have hb : Below wr.heap.size wr (wr.alloc (.cells #[] 24)).drew := ((Below.refl wr.heap.size wr).alloc rr _).drew
         have hown6 : (wr.alloc (.cells #[] 24)).drew.ownsRow wr.heap.size 24 2 (.slice (some ⟨wr.heap.size, 0, none⟩) 0 0) 0 (wcells []) := World.ownsRow_made (base := wr.heap.size) (e := 24) (size := 2) wr #[] 0 rr (by simp [maxLen]) rfl
         have hS := HSB.out _ hb
         refine hK' _ _ ⟨.inr hS, fun _ => ?_⟩
         clear hK' K'
         (try simp only [Act.put, nY, nX])
         have hz6 : wr.heap.size + 1 = (wr.alloc (.cells #[] 24)).drew.heap.size := by simp
         generalize (wr.alloc (.cells #[] 24)).drew = V6 at *
         have HB6 := hI hb
         have HO6 := hI hown6
         clear hb hown6 hS
         refine anyT_sp 23 rfl (fun K' hK' => ?_)
         rw [if_pos (by rfl)]
         refine wp_append_snd (.tmp 97) (.tmp 98) rfl wr.heap.size _ 0 [] (by rfl) HO6.out A3 n3 c3 (stemW (stemK r)) (by rfl) ((HW3.out.below hBx rr).below HB6.out rr) (by omega) (by omega) ?_
         intro v7 w7 hown7 hg7
         have hb7 : Below wr.heap.size wr w7 := own_below HB6.out HO6.out hg7 rr (by omega)
         have hown7' : w7.ownsRow wr.heap.size 24 2 v7 n3 (wcells (stemW (stemK r))) := by simpa using hown7
         have hS := HSB.out _ hb7
         refine hK' _ _ ⟨.inr hS, fun _ => ?_⟩
         clear hK' K' hown7 hg7 hS
         (try simp only [Act.put, nY, nX])
         have HB7 := hI hb7
         have HO7 := hI hown7'
         have h7s := hb7.size
         clear hb7 hown7'
         refine anyT_sp 29 rfl (fun K' hK' => ?_)
         rw [if_pos (by rfl)]
         refine wp_append_snd (.tmp 99) (.tmp 104) rfl wr.heap.size v7 n3 (stemW (stemK r)) (by rfl) HO7.out A5 n5 c5 es' (by rfl) (HWE.out.below HB7.out rr) (by omega) (by omega) ?_
         intro v8 w8 hown8 hg8
         have hb8 : Below wr.heap.size wr w8 := own_below HB7.out HO7.out hg8 rr (by omega)
         rw [HAPP.out trivial] at hown8
         obtain ⟨A8, c8, rfl⟩ := own_form hown8
         have hw8 : IsWord w8 A8 (n3 + n5) c8 ws := Cells.of_own hown8 (by decide)
         have hS := HSB.out _ hb8
         refine hK' _ _ ⟨.inr hS, fun _ => ?_⟩
         clear hK' K' hown8 hg8 hS
         (try simp only [Act.put, nY, nX])
         have HB8 := hI hb8
         have HW8 := hI hw8
         clear hb8 hw8
         (refine anyT_sp 38 rfl (fun K' hK' => ?_); simp only [nY]; go_simp)
         refine (rEqual_c A8 A6 (n3 + n5) n6 c8 c6 ws ws w8 HW8.out (HWJ.out.below HB8.out rr)).mono ?_
         rintro e w9 ⟨rfl, hb9'⟩
         have hb9 := HB8.out.trans (hb9'.mono HB8.out.size)
         rw [decide_eq_true rfl]
         have hS := HSB.out _ hb9
         refine hK' _ _ ⟨.inr hS, fun _ => ?_⟩
         clear hK' K' hb9'
         (try simp only [Act.put, nY, nX])
         (refine' anyT_tk 39 rfl ?_; (try simp only [Act.put, nY, nX])); (refine' anyT_tk 40 rfl ?_; (try simp only [Act.put, nY, nX]))
         (refine anyT_sp 41 rfl (fun K' hK' => ?_); simp only [nY]; go_simp)
         refine hK' _ _ ⟨.inl (by kernel_rfl), fun _ => anyT_done (by kernel_rfl) ?_ _⟩
         clear hK' K'
         obtain ⟨g0, g1, _, _, _⟩ := hS
         have hBx9 := hBx.trans (hb9.mono hBxs)
         have HFA9 := hI (hfa.out.below hb9)
         have HWE9 := hI (HWE.out.below hb9 rr)
         clear hfa hBBx
         by_cases h50 : n5 = 0
         ·have h5z : ((n5 : Int) == 0) = true := by simp; omega
          have HN : Hid (allGo (endsOf r) none true = allGo ((endsOf r).drop (k + 1)) f false) := by
           show _ = _
           rw [HD.out, List.eq_nil_of_length_eq_zero (HL5.out.trans h50)]; rfl
          clear h50
          go_wp2
          go_roundw
          case rel => exact ⟨k + 1, f, false, by go_num, rfl, by omega, HFA9.out, HN.out, hBx9⟩
          case measure => simp [intOf]; omega
         ·have h5z : ((n5 : Int) == 0) = false := by simp; omega
          obtain ⟨b5, off5, p, q, hA5, hb5, hx5, d0, d1⟩ := HWE9.out.at_ (k := 0) (by omega)
          rw [Nat.zero_mul, Nat.add_zero] at d0 d1
          subst hA5
          have hHW : Hid (IsWord w9 (some ⟨b5, off5, none⟩) 1 c5 [(p, q)]) := by
           show IsWord _ _ _ _ _
           have h1 := HWE9.out.take (k := 1) (by omega)
           cases es' with
           | nil => simp at hx5
           | cons s t =>
            obtain rfl : s = (p, q) := by simpa using hx5
            simpa using h1
          have HES : Hid (∃ t, es' = (p, q) :: t) := by
           cases es' with
           | nil => simp at hx5
           | cons s t =>
            obtain rfl : s = (p, q) := by simpa using hx5
            exact ⟨t, rfl⟩
          clear hx5
          have hc51 : (1 : Int) ≤ (c5 : Int) := by exact_mod_cast Nat.le_trans (show 1 ≤ n5 by omega) HWE9.out.2.1
          have h5p : (0 : Int) < (n5 : Int) := by omega
          have h5q : 0 < n5 := by omega
          cases f with
          | none =>
           have hv : _ = Value.slice none 0 0 := HFA9.out
           subst hv
           have HN : Hid (allGo (endsOf r) none true = allGo ((endsOf r).drop (k + 1)) (some (p, q)) a) := by
            show _ = _
            obtain ⟨t, rfl⟩ := HES.out
            exact HD.out
           go_wp2
           go_roundw
           case rel => exact ⟨k + 1, some (p, q), a, by go_num, rfl, by omega, ⟨_, _, rfl, hHW.out⟩, HN.out, hBx9⟩
           case measure => simp [intOf]; omega
          | some s =>
           obtain ⟨a9, c9, hv, hws⟩ : ∃ a c, _ = Value.slice (some a) 1 c ∧ IsWord w9 (some a) 1 c [s] := HFA9.out
           subst hv
           obtain ⟨b9, off9, p9, q9, ha9, hb9, hx9, f0, f1⟩ := hws.at_ (k := 0) (by omega)
           rw [Nat.zero_mul, Nat.add_zero] at f0 f1
           obtain rfl : a9 = ⟨b9, off9, none⟩ := by simpa using ha9
           obtain rfl : s = (p9, q9) := by simpa using hx9
           have HWS := hI hws
           have HN : Hid (allGo (endsOf r) none true = allGo ((endsOf r).drop (k + 1)) (some (p9, q9)) (a && decide ((p, q) = (p9, q9)))) := by
            show _ = _
            obtain ⟨t, rfl⟩ := HES.out
            exact HD.out
           clear hx9 ha9 hws
           cases a with
           | false =>
            go_wp2_with fail
            go_quiet (fail)
            go_wp2
            go_roundw
            case rel => exact ⟨k + 1, some (p9, q9), _, by go_num, rfl, by omega, ⟨_, _, rfl, HWS.out.below ((Below.refl _ _).drewN _) rr⟩, HN.out, hBx9.drewN _⟩
            case measure => simp [intOf]; omega
           | true =>
            by_cases e1 : p = p9
            ·subst e1
             by_cases e2 : q = q9
             ·subst e2
              replace HN : Hid (allGo (endsOf r) none true = allGo ((endsOf r).drop (k + 1)) (some (p, q)) true) := by
               have h := HN.out
               rwa [decide_eq_true rfl] at h
              go_wp2_with fail
              go_quiet (fail)
              go_wp2
              go_roundw
              case rel => exact ⟨k + 1, some _, true, by go_num, rfl, by omega, ⟨_, _, rfl, HWS.out.below ((Below.refl _ _).drewN _) rr⟩, HN.out, hBx9.drewN _⟩
              case measure => simp [intOf]; omega
             ·have HF : Hid (allGo (endsOf r) none true = allGo ((endsOf r).drop (k + 1)) (some (p, q9)) false) := by
               have h := HN.out
               rwa [decide_eq_false (fun e => e2 (congrArg Prod.snd e))] at h
              have he1 : (q == q9) = false := by simpa using e2
              clear HN
              have HN := HF
              go_wp2_with fail
              go_quiet (fail)
              go_wp2
              go_roundw
              case rel => exact ⟨k + 1, some _, false, by go_num, rfl, by omega, ⟨_, _, rfl, HWS.out.below ((Below.refl _ _).drewN _) rr⟩, HN.out, hBx9.drewN _⟩
              case measure => simp [intOf]; omega
            ·have HF : Hid (allGo (endsOf r) none true = allGo ((endsOf r).drop (k + 1)) (some (p9, q9)) false) := by
              have h := HN.out
              rwa [decide_eq_false (fun e => e1 (congrArg Prod.fst e))] at h
             have he1 : (p == p9) = false := by simpa using e1
             clear HN
             have HN := HF
             go_wp2_with fail
             go_quiet (fail)
             go_wp2
             go_roundw
             case rel => exact ⟨k + 1, some _, false, by go_num, rfl, by omega, ⟨_, _, rfl, HWS.out.below ((Below.refl _ _).drewN _) rr⟩, HN.out, hBx9.drewN _⟩
             case measure => simp [intOf]; omega
       ·have hk1 : ¬ (k : Int) < (4 : Int) := by omega
        have ha : a = false := by
         have h1 := hgo.out
         rw [List.drop_eq_nil_of_le (by rw [ends_len, HROW.out.1]; omega)] at h1
         obtain ⟨s, hs⟩ := stem_some HK.out
         have h2 := ends_not_all (m := s.1) (g := s.2) hs
         rw [h1] at h2
         exact h2
        subst ha
        clear hgo hfa
        have hb3x : Below wi.heap.size wi wr := HB23.out.trans (hBx.mono HB23.out.size)
        have htri1 := HTRI.out.below hb3x
        have HFR : Hid (FAw (triS u4 u5 u6) wr ⟨A2, 4, c2, r⟩) := htri1.olderF HF.out rr hBBx
        have HFE : Hid (FAw (triS u4 u5 u6) wr ⟨A4, 4, c4, endsOf r⟩) := ((HTRI2.out.freshF HO4.out)).below hBx
        have HFW : Hid (WAw (triS u4 u5 u6) wr (A3, n3, c3, stemW (stemK r))) := (HTRI.out.freshW (q := (A3, n3, c3, stemW (stemK r))) HW3.out (fun ad had => HF3.out ad had)).below hBx
        have hbN : Below wr.heap.size wr (wr.alloc (.cells #[.slice A2 4 c2] 70)) := bel
        have HT4 := hI (htri1.below hbN)
        have HFR1 := hI (HFR.out.below hbN)
        have HFE1 := hI (HFE.out.below hbN)
        have HFW1 := hI (HFW.out.below hbN)
        have HBN : Hid (Below w1.heap.size w1 (wr.alloc (.cells #[.slice A2 4 c2] 70))) := hBBx.trans (hbN.mono hBBx.size)
        have hrl8 : rs.length ≤ 70 := by omega
        clear htri1 hb3x hbN HFR HFE HFW
        go_wp2_with (at_builtin; refine append_fms rfl (.tmp 154) (.tmp 159) rfl w1.heap.size u4 rs.length (rs.map RowR.val) rfl HT4.out.o4 ⟨wr.heap.size, 0, none⟩ 1 (.slice A2 4 c2) rfl (cell_one_new _ _ _) rfl ?hl ?hz ?hc)
        case hl => omega
        case hz => simpa using HBN.out.size
        case hc =>
         intro v9 X9 hown9 hg9 hat9
         have hat9' := hat9
         replace hat9' : v9.ownBlock = u4.ownBlock ∨ v9.ownBlock = some (wr.alloc (.cells #[.slice A2 4 c2] 70)).heap.size := by simpa using hat9
         have hT9 := HT4.out.push4 HFR1.out hown9 hg9 hat9'
         have hB9 : Below w1.heap.size w1 X9 := own_below HBN.out HT4.out.o4 hg9 rr HBN.out.size
         have hE9 := HFE1.out.keep (tri_k4 hg9) (tri_s4 hat9')
         have hW9 := HFW1.out.keep (tri_k4 hg9) (tri_s4 hat9')
         have hbN : Below X9.heap.size X9 (X9.alloc (.cells #[.slice A3 n3 c3] 32)) := bel
         have HT5 := hI (hT9.below hbN)
         have HFE5 := hI (hE9.below hbN)
         have HFW5 := hI (hW9.below hbN)
         have HBN5 : Hid (Below w1.heap.size w1 (X9.alloc (.cells #[.slice A3 n3 c3] 32))) := hB9.trans (hbN.mono hB9.size)
         have hpl8 : ps.length ≤ 70 := by have := HPEL.out; omega
         have hel8 : es.length ≤ 70 := by have := HEL.out; omega
         clear hown9 hg9 hat9 hat9' hT9 hB9 hE9 hW9 hbN
         go_wp2_with (at_builtin; refine append_wd rfl (.tmp 161) (.tmp 163) rfl w1.heap.size u5 ps.length (ps.map Part.val) rfl HT5.out.o5 ⟨X9.heap.size, 0, none⟩ 1 (.slice A3 n3 c3) rfl (cell_one_new _ _ _) rfl ?hl ?hz ?hd)
         case hl => omega
         case hz => simpa using HBN5.out.size
         case hd =>
          intro va Xa howna hga hata
          have hata' : va.ownBlock = u5.ownBlock ∨ va.ownBlock = some (X9.alloc (.cells #[.slice A3 n3 c3] 32)).heap.size := by simpa using hata
          have hTa := HT5.out.push5 HFW5.out howna hga hata'
          have hBa : Below w1.heap.size w1 Xa := own_below HBN5.out HT5.out.o5 hga rr HBN5.out.size
          have hEa := HFE5.out.keep (tri_k5 hga) (tri_s5 hata')
          have hbN : Below Xa.heap.size Xa (Xa.alloc (.cells #[.slice A4 4 c4] 70)) := bel
          have HT6 := hI (hTa.below hbN)
          have HFE6 := hI (hEa.below hbN)
          have HBN6 : Hid (Below w1.heap.size w1 (Xa.alloc (.cells #[.slice A4 4 c4] 70))) := hBa.trans (hbN.mono hBa.size)
          clear howna hga hata hata' hTa hBa hEa hbN
          go_wp2_with (at_builtin; refine append_fms rfl (.tmp 165) (.tmp 167) rfl w1.heap.size u6 es.length (es.map RowR.val) rfl HT6.out.o6 ⟨Xa.heap.size, 0, none⟩ 1 (.slice A4 4 c4) rfl (cell_one_new _ _ _) rfl ?hl ?hz ?hc)
          case hl => omega
          case hz => simpa using HBN6.out.size
          case hc =>
           intro vb Xb hownb hgb hatb
           have HTb := hI (HT6.out.push6 HFE6.out hownb hgb (by simpa using hatb))
           have hBb : Below w1.heap.size w1 Xb := own_below HBN6.out HT6.out.o6 hgb rr HBN6.out.size
           have HN4 : Hid ((rs ++ [(⟨A2, 4, c2, r⟩ : RowR)]).map RowR.l = (T.take (i + 1)).filter hasK) := by show _ = _; rw [filter_yes HLK.out HK.out, List.map_append, hd4.out]; rfl
           have HN5 : Hid ((ps ++ [((A3, n3, c3, stemW (stemK r)) : Part)]).map Part.word = ((T.take (i + 1)).filter hasK).map fun r => stemW (stemK r)) := by show _ = _; rw [filter_yes HLK.out HK.out, List.map_append, List.map_append, hd5.out]; rfl
           have HN6 : Hid ((es ++ [(⟨A4, 4, c4, endsOf r⟩ : RowR)]).map RowR.l = ((T.take (i + 1)).filter hasK).map endsOf) := by show _ = _; rw [filter_yes HLK.out HK.out, List.map_append, List.map_append, hd6.out]; rfl
           clear hownb hgb hatb
           go_wp2
           go_roundw
           case rel => exact ⟨i + 1, _, _, _, by go_num, by omega, HTb.out, HN4.out, HN5.out, HN6.out, by simp; omega, by simp; exact HPEL.out, by simp; exact HEL.out, hBb⟩
           case measure => simp [intOf]; omega
   ·rw [if_neg hk]
    rintro e w2 ⟨A3, n3, c3, rfl, hw3, hb2, hf3⟩
    have HB2 := hI (HB.out.trans (hb2.mono hBs))
    go_wp2_with fail
    refine (pEndings_c _ n1 c1 T i w2 (HP1.out.below HB2.out rr) (by omega)).mono ?_
    rw [pEnds_row HPE.out HLK.out, if_neg hk]
    rintro e w3 ⟨A4, n4, c4, rfl, ho4, hb3⟩
    have HB3 := hI (HB2.out.trans (hb3.mono HB2.out.size))
    have HTRI3 := hI ((HTRI.out.below hb2).below hb3)
    clear ho4 hw3 hb2 hb3 hf3
    go_wp2_with fail
    go_loopw [12, 13] (fun vm vk wx => ∃ k m : Nat, vk = .int .i64 k ∧ vm = .int .i64 m ∧ k ≤ 4 ∧ m ≤ k ∧ Hid (m = ((r.take k).filter fun x => x.1).length) ∧ Below w3.heap.size w3 wx) (fun _ vk _ => 4 - (intOf vk).toNat)
    case atStart => exact ⟨0, 0, rfl, rfl, Nat.zero_le _, rr, rfl, Below.refl _ _⟩
    case round =>
     obtain ⟨k, m, rfl, rfl, hk4, hmk, hcnt, hBx⟩ := hrel
     have hBBx := HB3.out.trans (hBx.mono HB3.out.size)
     have hd1 := (hBBx.cell (p := ⟨b, off + i, none⟩) hbl).trans HC1.out
     by_cases hltk : k < 4
     ·have hk1 : (k : Int) < (4 : Int) := by omega
      obtain ⟨b2, off2, h, A5, n5, c5, ws, rfl, hb2, e0, e1, hlj, hwj⟩ := HF.out.at_ hltk
      have d0 := (hBBx.cell (p := ⟨b2, off2 + k * 2, none⟩) hb2).trans e0
      have HLJ := hI hlj
      clear hlj hwj e0 e1
      cases h with
      | false =>
       have HN : Hid (m = ((r.take (k + 1)).filter fun x => x.1).length) := by show _ = _; rw [filter_no HLJ.out rfl]; exact hcnt.out
       go_wp2
       go_roundw
       case rel => exact ⟨k + 1, m, by go_num, by go_num, by omega, by omega, HN.out, hBx⟩
       case measure => simp [intOf]; omega
      | true =>
       have HN : Hid (m + 1 = ((r.take (k + 1)).filter fun x => x.1).length) := by show _ = _; rw [filter_yes HLJ.out rfl, List.length_append, ← hcnt.out]; rfl
       go_wp2
       go_roundw
       case rel => exact ⟨k + 1, m + 1, by go_num, by go_num, by omega, by omega, HN.out, hBx⟩
       case measure => simp [intOf]; omega
     ·have hk1 : ¬ (k : Int) < (4 : Int) := by omega
      have hcnt' : m = (r.filter fun x => x.1).length := by rw [hcnt.out, List.take_of_length_le (by rw [HROW.out.1]; omega)]
      clear hcnt hd1
      have hm0 : m = 0 := by
       rw [hcnt', List.length_eq_zero_iff, List.filter_eq_nil_iff]
       intro x hx h1
       exact hk (List.any_eq_true.2 ⟨x, hx, h1⟩)
      subst hm0
      have HTRI4 := hI (HTRI3.out.below hBx)
      have HN4 : Hid (rs.map RowR.l = (T.take (i + 1)).filter hasK) := by show _ = _; rw [filter_no HLK.out (by simpa using hk)]; exact hd4.out
      have HN5 : Hid (ps.map Part.word = ((T.take (i + 1)).filter hasK).map fun r => stemW (stemK r)) := by show _ = _; rw [filter_no HLK.out (by simpa using hk)]; exact hd5.out
      have HN6 : Hid (es.map RowR.l = ((T.take (i + 1)).filter hasK).map endsOf) := by show _ = _; rw [filter_no HLK.out (by simpa using hk)]; exact hd6.out
      clear hcnt'
      go_wp2
      go_roundw
      case rel => exact ⟨i + 1, rs, ps, es, by go_num, by omega, HTRI4.out, HN4.out, HN5.out, HN6.out, by omega, HPEL.out, HEL.out, hBBx⟩
      case measure => simp [intOf]; omega
  ·have hi1 : ¬ (i : Int) < (n1 : Int) := by omega
   clear hpl hel
   have hti : T.take i = T := List.take_of_length_le (by rw [HP1.out.len]; omega)
   rw [hti] at hd4 hd5 hd6
   obtain ⟨A4, c4, hv4⟩ := own_form htri.out.o4
   obtain ⟨A5, c5, hv5⟩ := own_form htri.out.o5
   obtain ⟨A6, c6, hv6⟩ := own_form htri.out.o6
   subst hv4 hv5 hv6
   have hp4 := htri.out.par4 rfl
   have hw5 := htri.out.words5 rfl
   have hp6 := htri.out.par6 rfl
   rw [hd4.out] at hp4
   rw [hd5.out] at hw5
   rw [hd6.out] at hp6
   have HP4 := hI hp4
   have HW5 := hI hw5
   have HP6 := hI hp6
   have HF3 : Hid (∀ r ∈ T.filter hasK, Row4 3 r) := fun r hr => HR4.out r (List.mem_filter.1 hr).1
   have hlf : (T.filter hasK).length ≤ 64 := by have := List.length_filter_le hasK T; have := HP1.out.len; omega
   have HBA := hI (build_again HF3.out hlf)
   clear hp4 hw5 hp6 htri hti hd4 hd5 hd6 hlf
   go_wp2_with fail
   refine (pBuild_c A5 ps.length c5 _ A6 es.length c6 _ wr HW5.out HP6.out).mono ?_
   rw [HBA.out]
   rintro e w2 ⟨A7, n7, c7, rfl, hp7, hb2⟩
   have HP7 := hI hp7
   have HP42 := hI (HP4.out.below hb2 rr)
   have hB2 := HB1.out.trans ((hB.trans (hb2.mono hB.size)).mono HB1.out.size)
   clear hp7 hb2
   go_wp2_with fail
   refine (same29_c A7 A4 n7 rs.length c7 c4 _ _ w2 HP7.out HP42.out).mono ?_
   rintro e w3 ⟨rfl, hb3⟩
   rw [decide_eq_true rfl]
   have hB3 := hB2.trans (hb3.mono hB2.size)
   go_wp2_with fail
   refine (works29_c _ (HT.out.below hB3 rr)).mono ?_
   rintro e w9 ⟨rfl, hbw⟩
   go_wp2
   go_ret
   exact ⟨rfl, hB3.trans (hbw.mono hB3.size)⟩
end Go.Proofs.YtcpcojgmmpnkoaaGreatDoor

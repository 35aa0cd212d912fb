/-
  ablautref29.Derive.
-/
import Derived.Test.YtcpcojgmmpnkoaaGreatDoorG68
import Derived.Test.YtcpcojgmmpnkoaaGreatDoorG30
import Derived.Test.YtcpcojgmmpnkoaaGreatDoorG64
set_option linter.all false
set_option maxRecDepth 100000
set_option maxHeartbeats 4000000
namespace Go.Proofs.YtcpcojgmmpnkoaaGreatDoor
open Go.RowKit Go.Shelf
theorem r29Derive_c (A : Option Addr) (n c : Nat) (T : List (List Frm)) (A' : Option Addr) (n' c' : Nat) (xs : List LawR) (w : World) (hx : IsPar w A n c T) (hl : IsLaws w A' n' c' xs) (hxu : ParU T) (hlu : LawsU xs) :
  Calls Tryz.prog 65 #[.slice A n c, .slice A' n' c'] w (RetPar w (pDerM T (lawsD xs))) := by
 have hm := hx.max
 have HX := hI hx; clear hx
 have HL := hI hl; clear hl
 have k5 := hI hxu; clear hxu
 have m3 := hI hlu; clear hlu
 go_enter Tryz.func65, Tryz.ntmps65
 go_wp2_with fail
 refine (r10Check_c A' n' c' xs w HL.out m3.out).mono ?_
 obtain ⟨er, a6⟩ : ∃ er, er = lawsE (lawsD xs) := ⟨_, rfl⟩
 rw [← a6]
 rintro e w0 ⟨rfl, f3⟩
 by_cases h0 : er = 0
 case neg =>
  have h1 : (er != 0) = true := by simpa using h0
  have HM : Hid (pDerM T (lawsD xs) = (er, [])) := by show _ = _; unfold pDerM; rw [← a6, if_pos h0]
  clear h0 a6
  go_wp2
  go_ret2
  exact RetPar.bad HM.out f3
 have h1 : (er != 0) = false := by simpa using h0
 have i4 : Hid (lawsE (lawsD xs) = 0) := by show _ = _; rw [← a6]; exact h0
 clear h0 a6
 go_wp2_with fail
 refine (r29Check_c A n c T w0 (HX.out.below f3 rr) k5.out).mono ?_
 obtain ⟨er, a6⟩ : ∃ er, er = parE T := ⟨_, rfl⟩
 rw [← a6]
 rintro e w1 ⟨rfl, a9⟩
 have j6 := f3.trans (a9.mono f3.size)
 clear a9 f3
 by_cases h0 : er = 0
 case neg =>
  have h1 : (er != 0) = true := by simpa using h0
  have HM : Hid (pDerM T (lawsD xs) = (er, [])) := by show _ = _; unfold pDerM; rw [if_neg (by simp [i4.out]), ← a6, if_pos h0]
  clear h0 a6
  go_wp2
  go_ret2
  exact RetPar.bad HM.out j6
 have h1 : (er != 0) = false := by simpa using h0
 have d4 : Hid (parE T = 0) := by show _ = _; rw [← a6]; exact h0
 have HM : Hid (pDerM T (lawsD xs) = if T.any (fun l => l.any (derBad (lawsD xs))) = true then (11, []) else (0, T.map fun l => l.map (derF (lawsD xs)))) := by show _ = _; unfold pDerM; rw [if_neg (by simp [i4.out]), if_neg (by simp [d4.out])]
 clear h0 a6
 have o1 : n ≤ 64 := by rw [← HX.out.len]; exact (shape_len (par_shape d4.out)).1
 have d2 := hI j6
 clear j6
 go_wp2_with fail
 go_loopw [8, 9] (fun v vi wr => ∃ (i : Nat) (rs : List RowR), vi = .int .i64 i ∧ i ≤ n ∧ Hid (rs.length = i) ∧ Hid (ParW wr w1.heap.size v rs) ∧ Hid (rs.map RowR.l = (T.take i).map fun l => l.map (derF (lawsD xs))) ∧ Hid ((T.take i).any (fun l => l.any (derBad (lawsD xs))) = false) ∧ Below w1.heap.size w1 wr) (fun _ vi _ => n - (intOf vi).toNat)
 case atStart => exact ⟨0, [], rfl, Nat.zero_le _, rfl, ParW.nil _, by simp [Hid], rfl, Below.refl _ _⟩
 case round =>
  obtain ⟨i, rs, rfl, hi, k3, d1, f0, d8, hB⟩ := hrel
  have j5 := hB.size
  by_cases hlt : i < n
  ·have o4 : (i : Int) < (n : Int) := by omega
   obtain ⟨b, off, A1, n1, c1, l, rfl, hb, f1, g7, a8⟩ := HX.out.at_ hlt
   have o7 := hI f1; clear f1
   have a7 := List.mem_of_getElem? g7
   have o2 := (shape_len (par_shape d4.out)).2.1 _ a7
   rw [a8.len] at o2
   have p0 : Hid (∀ x ∈ l, wcheck x.2 = 0 ∧ (x.1 = false → x.2 = [])) := fun x hx => ⟨words_all d4.out a7 hx, ((shape_len (par_shape d4.out)).2.2 _ a7).2 x hx⟩
   have j1 : Hid (∀ x ∈ l, WordU x.2) := k5.out l a7
   have HF := hI a8
   have i1 := hI g7
   clear a8 g7 a7
   obtain ⟨wi, g4⟩ : ∃ wi, wi = wr := ⟨_, rfl⟩
   rw [← g4] at d1 hB j5
   have k9 := hI g4
   clear g4
   go_wp2_with fail
   go_loopw [10, 11] (fun u vj wr => ∃ (j : Nat) (fs : List FormR), vj = .int .i64 j ∧ j ≤ n1 ∧ fs.length = j ∧ Hid (FrmW wr wi.heap.size u fs) ∧ Hid (∀ f ∈ fs, ∀ ad, f.p.1 = some ad → wi.heap.size ≤ ad.block) ∧ Hid (fs.map FormR.data = (l.take j).map (derF (lawsD xs))) ∧ Hid ((l.take j).any (derBad (lawsD xs)) = false) ∧ Below wi.heap.size wi wr) (fun _ vj _ => n1 - (intOf vj).toNat)
   case atStart => exact ⟨0, [], rfl, Nat.zero_le _, rfl, by rw [← k9.out]; exact FrmW.nil _, (fun f hf => by cases hf), by simp [Hid], rfl, by rw [← k9.out]; exact Below.refl _ _⟩
   case round =>
    obtain ⟨j, fs, rfl, hj, a8, d7, i8, b7, b5, d3⟩ := hrel
    have b1 := d3.size
    have b8 := hB.trans (d3.mono j5)
    have a3 := d2.out.trans (b8.mono d2.out.size)
    have o3 := (a3.cell (p := ⟨b, off + i, none⟩) hb).trans o7.out
    by_cases hltj : j < n1
    ·have o6 : (j : Int) < (n1 : Int) := by omega
     obtain ⟨b2, off2, h, A2, n2, c2, ws, rfl, f2, k8, j9, f8, j8⟩ := HF.out.at_ hltj
     have e0 := (a3.cell (p := ⟨b2, off2 + j * 2, none⟩) f2).trans k8
     have e1 := (a3.cell (p := ⟨b2, off2 + j * 2 + 1, none⟩) f2).trans j9
     obtain ⟨k7, k2⟩ := p0.out _ (List.mem_of_getElem? f8)
     have p3 : Hid (wcheck ws = 0) := k7
     have p1 : Hid (h = false → ws = []) := k2
     have p4 : Hid (WordU ws) := j1.out _ (List.mem_of_getElem? f8)
     have f5 := hI f8
     have HW := hI j8
     clear f8 j8 k7 k2 k8 j9
     have a9 : Below wr.heap.size wr (wr.alloc (.cells #[.bool h, .slice none 0 0] 77)) := bel
     have d5 : (wr.alloc (.cells #[.bool h, .slice none 0 0] 77)).heap[wr.heap.size]? = some (.cells #[.bool h, .slice none 0 0] 77 (0, 0)) := hpt
     have m5 : (wr.alloc (.cells #[.bool h, .slice none 0 0] 77)).heap.size = wr.heap.size + 1 := by simp
     cases h with
     | false =>
      obtain rfl : ws = [] := p1.out rfl
      obtain rfl : 0 = n2 := HW.out.len
      have i6 : Below wr.heap.size wr ((wr.alloc (.cells #[.bool false, .slice none 0 0] 77)).alloc (.cells #[.bool false, .slice none 0 0] 77)) := bel
      have d9 : ((wr.alloc (.cells #[.bool false, .slice none 0 0] 77)).alloc (.cells #[.bool false, .slice none 0 0] 77)).heap[wr.heap.size + 1]? = some (.cells #[.bool false, .slice none 0 0] 77 (0, 0)) := hpt
      have a2 := hI (d7.out.below i6)
      have j3 : Hid (Away u10 ((wr.alloc (.cells #[.bool false, .slice none 0 0] 77)).alloc (.cells #[.bool false, .slice none 0 0] 77)) (none, 0, 0, [])) := ⟨Cells.nil _ _, fun ad h => by cases h⟩
      have i5 : Hid ((fs ++ [(⟨false, (none, 0, 0, [])⟩ : FormR)]).map FormR.data = (l.take (j + 1)).map (derF (lawsD xs))) := by show _ = _; rw [take_snoc' l j _ f5.out, List.map_append, List.map_append, b7.out]; rfl
      have j7 : Hid ((l.take (j + 1)).any (derBad (lawsD xs)) = false) := any_snoc f5.out b5.out rfl
      have j0 : Hid (∀ f' ∈ fs ++ [(⟨false, (none, 0, 0, [])⟩ : FormR)], ∀ ad, f'.p.1 = some ad → wi.heap.size ≤ ad.block) := fun f' g2 ad had => by
       rcases List.mem_append.1 g2 with h1 | h1
       ·exact i8.out f' h1 ad had
       ·obtain rfl : f' = ⟨false, (none, 0, 0, [])⟩ := by simpa using h1
        cases had
      have d0 := hI (d3.trans (i6.mono b1))
      have g3 : fs.length ≤ 16 := by omega
      have f6 := hI a8
      have g5 := hI d9
      clear i6 a9 d5 m5 a8 d9
      go_wp2_with (at_builtin; refine append_frm rfl (.tmp 69) (.tmp 71) rfl wi.heap.size u10 fs.length (fs.flatMap FormR.cells) rfl a2.out.own ⟨wr.heap.size + 1, 0, none⟩ 1 ⟨false, (none, 0, 0, [])⟩ rfl (form_cells g5.out) ?hl ?hz ?hc)
      case hl => omega
      case hz => simpa using d0.out.size
      case hc =>
       intro v9 X9 a0 a5 a1
       have b9 := hI (a2.out.push j3.out a0 a5 (by simpa using a1))
       have d6 : Below wi.heap.size wi X9 := own_below d0.out a2.out.own a5 rr d0.out.size
       clear a0 a5 a1
       go_wp2
       go_roundw
       case rel => exact ⟨j + 1, _, by go_num, by omega, by rw [List.length_append, f6.out]; rfl, b9.out, j0.out, i5.out, j7.out, d6⟩
       case measure => simp [intOf]; omega
     | true =>
      have p5 : b2 < wr.heap.size := by have := a3.size; omega
      have p7 : b < wr.heap.size := by have := a3.size; omega
      go_wp2_with fail
      clear o3 e0 e1
      generalize hV1 : (wr.alloc (.cells #[.bool true, .slice none 0 0] 77)) = V1 at *
      clear hV1
      obtain ⟨bx, b4⟩ : ∃ bx, bx = wr.heap.size := ⟨_, rfl⟩
      rw [← b4] at d5 m5 ⊢
      have i7 : wr.heap.size ≤ bx := Nat.le_of_eq b4.symm
      have i9 := lt_of_block d5
      have m8 := d3.trans (a9.mono b1)
      have b0 := d2.out.trans ((hB.trans (m8.mono j5)).mono d2.out.size)
      clear b4
      refine (r10DeriveF_c A' n' c' xs A2 n2 c2 ws V1 (HL.out.below b0 rr) (HW.out.below b0 rr) m3.out p4.out).mono ?_
      obtain ⟨r, hr⟩ : ∃ r, r = deriveM (lawsD xs) ws := ⟨_, rfl⟩
      have f7 := derive_11 i4.out p3.out
      rw [← hr] at f7 ⊢
      have HR := hI hr; clear hr
      rintro e w7 ⟨A7, m, c7, rfl, j4, f9, i0⟩
      have f4 := (f9.block bx i9).trans d5
      by_cases h0 : r.1 = 0
      case neg =>
       have h2 : (r.1 != 0) = true := by simpa using h0
       have g1 : Hid (pDerM T (lawsD xs) = (r.1, [])) := by
        have h3 : r.1 = 11 := f7.resolve_left h0
        show _ = _
        rw [HM.out, if_pos (any_at i1.out (any_at f5.out (by show (true && (deriveM (lawsD xs) ws).1 != 0) = true; rw [← HR.out, h3]; rfl))), h3]
       have p2 := b0.trans (f9.mono b0.size)
       clear h0 f7
       go_wp2
       go_ret2
       exact RetPar.bad g1.out p2
      have h2 : (r.1 != 0) = false := by simpa using h0
      have j7 : Hid ((l.take (j + 1)).any (derBad (lawsD xs)) = false) := any_snoc f5.out b5.out (by show (true && (deriveM (lawsD xs) ws).1 != 0) = false; rw [← HR.out, h0]; rfl)
      obtain ⟨rw2, b3⟩ : ∃ rw2, rw2 = r.2 := ⟨_, rfl⟩
      rw [← b3] at j4
      have o8 : Hid (rw2 = (deriveM (lawsD xs) ws).2) := by show _ = _; rw [b3, HR.out]
      clear f7 b3
      have m0 : w7.cell? ⟨bx, 0, none⟩ = some (.bool true) := cell_at_heap f4 rfl
      have m1 : w7.frozen? ⟨bx, 1, none⟩ = false := frozen_of_row w7 bx 1 _ _ f4
      have m2 : w7.cell? ⟨bx, 1, none⟩ = some (.slice none 0 0) := cell_at_heap f4 rfl
      have a4 : Below wr.heap.size wr (w7.setCell ⟨bx, 1, none⟩ (.slice A7 m c7)) := (a9.trans (f9.mono a9.size)).setCell (p := ⟨bx, 1, none⟩) i7 _
      have b6 : (w7.setCell ⟨bx, 1, none⟩ (.slice A7 m c7)).heap[bx]? = some (.cells #[.bool true, .slice A7 m c7] 77 (0, 0)) := heap_setCell_same f4
      have k4 : Keep (fun k => k = bx) w7 (w7.setCell ⟨bx, 1, none⟩ (.slice A7 m c7)) := (Keep.refl (fun k => k = bx) w7).setCell (p := ⟨bx, 1, none⟩) rfl _
      have k6 : IsWord (w7.setCell ⟨bx, 1, none⟩ (.slice A7 m c7)) A7 m c7 rw2 := j4.keep k4 fun _ ad had e => by have := i0 ad had; omega
      have i2 : ∀ ad, A7 = some ad → wr.heap.size ≤ ad.block := fun ad had => Nat.le_trans a9.size (i0 ad had)
      have k0 : (w7.setCell ⟨bx, 1, none⟩ (.slice A7 m c7)).cell? ⟨bx, 0, none⟩ = some (.bool true) := cell_at_heap b6 rfl
      have k1 : (w7.setCell ⟨bx, 1, none⟩ (.slice A7 m c7)).cell? ⟨bx, 1, none⟩ = some (.slice A7 m c7) := cell_at_heap b6 rfl
      clear k4 j4 i0 f4
      have g0 : Below (w7.setCell ⟨bx, 1, none⟩ (.slice A7 m c7)).heap.size (w7.setCell ⟨bx, 1, none⟩ (.slice A7 m c7)) ((w7.setCell ⟨bx, 1, none⟩ (.slice A7 m c7)).alloc (.cells #[.bool true, .slice A7 m c7] 77)) := bel
      have d9 : ((w7.setCell ⟨bx, 1, none⟩ (.slice A7 m c7)).alloc (.cells #[.bool true, .slice A7 m c7] 77)).heap[w7.heap.size]? = some (.cells #[.bool true, .slice A7 m c7] 77 (0, 0)) := hpt
      have a2 := hI (d7.out.below (a4.trans (g0.mono a4.size)))
      have j3 : Hid (Away u10 ((w7.setCell ⟨bx, 1, none⟩ (.slice A7 m c7)).alloc (.cells #[.bool true, .slice A7 m c7] 77)) (A7, m, c7, rw2)) := d7.out.fresh (q := (A7, m, c7, rw2)) (k6.below g0 rr) i2
      have i5 : Hid ((fs ++ [(⟨true, (A7, m, c7, rw2)⟩ : FormR)]).map FormR.data = (l.take (j + 1)).map (derF (lawsD xs))) := by show _ = _; rw [take_snoc' l j _ f5.out, List.map_append, List.map_append, b7.out, o8.out]; rfl
      have j0 : Hid (∀ f' ∈ fs ++ [(⟨true, (A7, m, c7, rw2)⟩ : FormR)], ∀ ad, f'.p.1 = some ad → wi.heap.size ≤ ad.block) := fun f' g2 ad had => by
       rcases List.mem_append.1 g2 with h1 | h1
       ·exact i8.out f' h1 ad had
       ·obtain rfl : f' = ⟨true, (A7, m, c7, rw2)⟩ := by simpa using h1
        exact Nat.le_trans b1 (i2 ad had)
      have d0 : Hid (Below wi.heap.size wi ((w7.setCell ⟨bx, 1, none⟩ (.slice A7 m c7)).alloc (.cells #[.bool true, .slice A7 m c7] 77))) := d3.trans ((a4.trans (g0.mono a4.size)).mono b1)
      have g3 : fs.length ≤ 16 := by omega
      have f6 := hI a8
      have g5 := hI d9
      clear g0 a9 a8 d9 b6 k6 i2 a4 d5 f9
      go_wp2_with (at_builtin; refine append_frm rfl (.tmp 69) (.tmp 71) rfl wi.heap.size u10 fs.length (fs.flatMap FormR.cells) rfl a2.out.own ⟨w7.heap.size, 0, none⟩ 1 ⟨true, (A7, m, c7, rw2)⟩ rfl (form_cells g5.out) ?hl ?hz ?hc)
      case hl => omega
      case hz => simpa using d0.out.size
      case hc =>
       intro v9 X9 a0 a5 a1
       have b9 := hI (a2.out.push j3.out a0 a5 (by simpa using a1))
       have d6 : Below wi.heap.size wi X9 := own_below d0.out a2.out.own a5 rr d0.out.size
       clear a0 a5 a1
       go_wp2
       go_roundw
       case rel => exact ⟨j + 1, _, by go_num, by omega, by rw [List.length_append, f6.out]; rfl, b9.out, j0.out, i5.out, j7.out, d6⟩
       case measure => simp [intOf]; omega
    ·have o6 : ¬ ((j : Int) < (n1 : Int)) := by omega
     have o9 : Hid (fs.map FormR.data = l.map (derF (lawsD xs))) := by show _ = _; rw [b7.out, List.take_of_length_le (by rw [HF.out.len]; omega)]
     have m7 : Hid ((T.take (i + 1)).any (fun l => l.any (derBad (lawsD xs))) = false) := any_snoc i1.out d8.out (by
      have := b5.out
      rwa [List.take_of_length_le (by rw [HF.out.len]; omega)] at this)
     obtain ⟨A8, c8, j2⟩ := own_form d7.out.own
     obtain ⟨A7, c7, o0⟩ := own_form d1.out.own
     subst j2 o0
     have m4 : FAway (.slice A7 rs.length c7) wr ⟨A8, fs.length, c8, fs.map FormR.data⟩ := FrmW.away (v' := .slice A7 rs.length c7) d7.out rfl (fun k e => (d1.out.own.lt k e).2) (fun f hf ad had _ e => by have h1 := (d1.out.own.lt _ e).2; have h2 := i8.out f hf ad had; omega)
     have g9 : Below wr.heap.size wr (wr.alloc (.cells #[.slice A8 fs.length c8] 70)) := bel
     have m9 := hI (m4.below g9)
     have m6 : ParW wr w1.heap.size (.slice A7 rs.length c7) rs := d1.out.below d3
     have i3 := hI (m6.below g9)
     have g8 := b8.trans (g9.mono b8.size)
     have HN : Hid ((rs ++ [(⟨A8, fs.length, c8, fs.map FormR.data⟩ : RowR)]).map RowR.l = (T.take (i + 1)).map fun l => l.map (derF (lawsD xs))) := by
      show _ = _
      rw [take_snoc' T i _ i1.out, List.map_append, List.map_append, f0.out]
      show _ ++ [fs.map FormR.data] = _
      rw [o9.out]; rfl
     have p6 : rs.length ≤ 64 := by have := k3.out; omega
     have f6 := hI a8
     clear m4 m6 a8
     go_wp2_with (at_builtin; refine append_fms rfl (.tmp 73) (.tmp 75) rfl w1.heap.size (.slice A7 rs.length c7) rs.length (rs.map RowR.val) rfl i3.out.own ⟨wr.heap.size, 0, none⟩ 1 (.slice A8 fs.length c8) rfl (cell_one_new _ _ _) rfl ?hl ?hz ?hc)
     case hl => omega
     case hz => simpa using g8.size
     case hc =>
      intro v' w9 a0 a5 a1
      have o5 := hI (i3.out.push m9.out a0 a5 (by simpa using a1))
      have d6 : Below w1.heap.size w1 w9 := own_below g8 i3.out.own a5 rr g8.size
      clear a0 a5 a1
      go_wp2
      go_roundw
      case rel => exact ⟨i + 1, _, by go_num, by omega, by show _ = _; rw [List.length_append, k3.out]; rfl, o5.out, HN.out, m7.out, d6⟩
      case measure => simp [intOf]; omega
  ·have o4 : ¬ ((i : Int) < (n : Int)) := by omega
   have HD : Hid (rs.map RowR.l = T.map fun l => l.map (derF (lawsD xs))) := by show _ = _; rw [f0.out, List.take_of_length_le (by rw [HX.out.len]; omega)]
   have g1 : Hid (pDerM T (lawsD xs) = (0, T.map fun l => l.map (derF (lawsD xs)))) := by
    have := d8.out
    rw [List.take_of_length_le (by rw [HX.out.len]; omega)] at this
    show _ = _
    rw [HM.out, if_neg (by rw [this]; decide)]
   obtain ⟨A8, c8, j2⟩ := own_form d1.out.own
   subst j2
   have g6 := d1.out.par rfl
   rw [HD.out] at g6
   have HP := hI g6; clear g6
   go_wp2
   go_ret2
   exact ⟨A8, _, c8, by rw [g1.out]; rfl, by rw [g1.out]; exact HP.out, d2.out.trans (hB.mono d2.out.size)⟩
end Go.Proofs.YtcpcojgmmpnkoaaGreatDoor

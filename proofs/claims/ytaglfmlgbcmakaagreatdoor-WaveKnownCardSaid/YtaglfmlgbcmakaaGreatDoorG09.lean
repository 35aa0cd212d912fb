/-
  slices.IndexFunc and slices.ContainsFunc over records of type api.Out.
  law.Check, law.check.
  law.around and its function; law.hits.
  The iterator of law.hits.
  law.hit.
  law.put, law.replace.
  law.replace.
-/
import Derived.Scope
import Derived.Test.YtaglfmlgbcmakaaGreatDoorG08
set_option linter.all false
set_option maxRecDepth 100000
set_option maxHeartbeats 4000000
namespace Go.Proofs.YtaglfmlgbcmakaaGreatDoor
open Go.RowKit Go.Shelf
theorem idxOut_c (A : Option Addr) (n c : Nat) (xs : List OutD) (F : Nat) (lb : Array Value) (p : OutD → Bool) (w : World) (hx : Recs OutD.cells 6 w A n c xs) (hE : Enters Tryz.prog F)
  (hcall : ∀ W, Below w.heap.size w W → ∀ s ∈ xs, Calls Tryz.prog F (#[outV s] ++ lb) W fun e W' => e = .returned (.bool (p s)) ∧ Below W.heap.size W W') :
  Calls Tryz.prog 177 #[.slice A n c, .func (.func F) #[] lb] w fun e w' => e = .returned (.int .i64 (idxM p xs)) ∧ Below w.heap.size w w' := by
 have hm : n ≤ 9223372036854775807 := by have h1 := hx.1.2.1; have h2 := hx.1.2.2.1; unfold maxLen at h2; omega
 have HX := hI hx; clear hx
 have HC := hI hcall; clear hcall
 unfold Enters at hE
 go_enter Tryz.func177, Tryz.ntmps177
 go_wp2
 go_loopw [5, 8] (fun _ i wr => ∃ k : Nat, k ≤ n ∧ i = .int .i64 k ∧ Hid ((xs.take k).any p = false) ∧ Below w.heap.size w wr) (fun _ i _ => n - (intOf i).toNat)
 case atStart => exact ⟨0, Nat.zero_le _, rfl, by simp [Hid], Below.refl _ _⟩
 case round =>
  obtain ⟨k, hk, rfl, HA, hB⟩ := hrel
  by_cases hlt : k < n
  ·obtain ⟨s, hxk⟩ : ∃ s, xs[k]? = some s := ⟨xs[k]'(by rw [HX.out.2]; exact hlt), List.getElem?_eq_getElem _⟩
   obtain ⟨b, off, rfl, hb, hcs⟩ := (HX.out.below hB rr).at_ OutD.len (by decide) hxk
   have hc0 := hcs 0 _ rfl
   have hc1 := hcs 1 _ rfl
   have hc2 := hcs 2 _ rfl
   have hc3 := hcs 3 _ rfl
   have hc4 := hcs 4 _ rfl
   have hc5 := hcs 5 _ rfl
   simp only [Nat.add_zero, ← Nat.add_assoc] at hc0 hc1 hc2 hc3 hc4 hc5
   clear hcs
   have HCALL := hI (HC.out wr hB s (List.mem_of_getElem? hxk))
   have HK := hI hxk; clear hxk
   by_cases hp : p s = true
   ·have hr := idxM_some p xs k s HK.out HA.out hp
    have HR := hI hr; clear hr
    have HP := hI hp; clear hp
    go_wp2_with fail
    refine HCALL.out.mono ?_
    rintro e w1 ⟨rfl, hb1⟩
    rw [HP.out]
    have hB1 := hB.trans (hb1.mono hB.size)
    clear hb1
    go_wp2
    go_ret
    exact ⟨by rw [HR.out]; rfl, hB1⟩
   ·have hp' : p s = false := by simpa using hp
    have HP := hI hp'; clear hp hp'
    go_wp2_with fail
    refine HCALL.out.mono ?_
    rintro e w1 ⟨rfl, hb1⟩
    rw [HP.out]
    have hB1 := hB.trans (hb1.mono hB.size)
    clear hb1
    go_wp2
    go_roundw
    case rel => exact ⟨k + 1, by omega, by go_num, by rw [take_snoc' xs k _ HK.out, List.any_append, HA.out]; simp [HP.out, Hid], hB1⟩
    case measure => simp [intOf]; omega
  ·obtain rfl : k = n := by omega
   have hr : idxM p xs = -1 := by
    have := HA.out
    rw [List.take_of_length_le (by rw [HX.out.2]; exact rr)] at this
    exact idxM_none p xs this
   have HR := hI hr; clear hr
   go_wp2
   go_ret
   exact ⟨by rw [HR.out]; rfl, hB⟩
theorem anyOut_c (A : Option Addr) (n c : Nat) (xs : List OutD) (F : Nat) (lb : Array Value) (p : OutD → Bool) (w : World) (hx : Recs OutD.cells 6 w A n c xs) (hE : Enters Tryz.prog F)
  (hcall : ∀ W, Below w.heap.size w W → ∀ s ∈ xs, Calls Tryz.prog F (#[outV s] ++ lb) W fun e W' => e = .returned (.bool (p s)) ∧ Below W.heap.size W W') :
  Calls Tryz.prog 156 #[.slice A n c, .func (.func F) #[] lb] w fun e w' => e = .returned (.bool (xs.any p)) ∧ Below w.heap.size w w' := by
 have hcon := idxOut_c A n c xs F lb p w hx hE hcall
 have H := hI (idxM_any p xs)
 clear hx hcall hE
 go_enter Tryz.func156, Tryz.ntmps156
 go_wp2_with (go_at_call 177; refine hcon.mono ?_; rintro e w1 ⟨rfl, hb1⟩)
 go_ret
 refine ⟨?_, hb1⟩
 show Ending.returned (.bool (decide (0 ≤ idxM p xs))) = _
 rw [H.out]
theorem bad_c (x : OutD) (k : Int) (kb : Nat) (w : World) (hk : w.cell? ⟨kb, 0, none⟩ = some (.int .i64 k)) (hkl : kb < w.heap.size) :
  Calls Tryz.prog 149 #[outV x, .pointer (some ⟨kb, 0, none⟩)] w fun e w' => e = .returned (.bool (!fitsM x k)) ∧ Below w.heap.size w w' := by
 go_enter Tryz.func149, Tryz.ntmps149
 go_wp2_with (go_at_call 150; refine (fits_c _ _ _).mono ?_; rintro e w1 ⟨rfl, hb1⟩; have hz1 := bsize hb1; (try simp only [World.size_alloc, World.size_drew, World.size_setCell] at hz1); have c0 := fun o => hb1.cell (p := ⟨w.heap.size, o, none⟩) sd; have f0 := fun o => hb1.frozen (p := ⟨w.heap.size, o, none⟩) sd; have hB1 : Below w.heap.size w w1 := bel; clear hb1)
 go_ret
 exact ⟨rfl, hB1⟩
theorem invalid_c (p m : Int) (w : World) :
  Calls Tryz.prog 151 #[sndV p m] w fun e w' => e = .returned (.bool (!fvalid p m)) ∧ Below w.heap.size w w' := by
 go_enter Tryz.func151, Tryz.ntmps151
 go_wp2_with (go_at_call 152; refine (fValid_c _ _ _).mono ?_; rintro e w1 ⟨rfl, hb1⟩; have hz1 := bsize hb1; (try simp only [World.size_alloc, World.size_drew, World.size_setCell] at hz1); have c0 := fun o => hb1.cell (p := ⟨w.heap.size, o, none⟩) sd; have f0 := fun o => hb1.frozen (p := ⟨w.heap.size, o, none⟩) sd; have hB1 : Below w.heap.size w w1 := bel; clear hb1)
 go_ret
 exact ⟨rfl, hB1⟩
def badLaw (l : LawD) : Bool :=
 !namedM l.name || checkM 40 [l.left] != 0 || checkM 40 [l.right] != 0 || decide (4 < l.ifs.length) || decide (6 < l.outs.length) || decide (l.ifs.length + l.outs.length = 0) ||
 decide (l.mode < 1) || decide (3 < l.mode) || l.ifs.any (fun s => !fvalid s.1 s.2) || l.outs.any (fun x => !fitsM x l.ifs.length)
def lawE (l : LawD) : Int := if badLaw l then 17 else 0
theorem lCheck_c (l : LawD) (a : LawA) (w : World) (hl : LawAt w l a) :
  Calls Tryz.prog 122 #[lawV l a] w fun e w' => e = .returned (.int .i64 (lawE l)) ∧ Below w.heap.size w w' := by
 have hn63 := hl.2.2.2.2
 have hk63 := hl.2.2.1.max
 have hm63 : l.outs.length ≤ 9223372036854775807 := by have h1 := hl.2.2.2.1.1.2.1; have h2 := hl.2.2.2.1.1.2.2.1; unfold maxLen at h2; omega
 have HL := hI hl; clear hl
 obtain ⟨Wb, hWb, hrb, hlb, hBb, hzb⟩ := law_box w l a
 obtain ⟨d0, d1, d2, d3⟩ := law_reads hrb
 go_enter Tryz.func122, Tryz.ntmps122
 go_wp2_with fail
 clear hWb d0 d1 d2 d3
 have h0 : (Wb.alloc (.cells #[.int .i64 l.ifs.length] 3)).heap[w.heap.size]? = some (.cells (lawCs l a) 55 (0, 0)) := (heap_old_at hlb).trans hrb
 have h1 : (Wb.alloc (.cells #[.int .i64 l.ifs.length] 3)).heap[Wb.heap.size]? = some (.cells #[.int .i64 l.ifs.length] 3 (0, 0)) := heap_new_at rfl
 have hB : Below w.heap.size w (Wb.alloc (.cells #[.int .i64 l.ifs.length] 3)) := hBb.alloc (by omega) _
 have hkb : w.heap.size + 1 = Wb.heap.size := by omega
 generalize (Wb.alloc (.cells #[.int .i64 l.ifs.length] 3)) = W0 at *
 have hz0 := lt_of_block h1
 have HKB := hI hkb; clear hkb
 refine (named_c l.name W0 hn63).mono ?_
 rintro e w1 ⟨rfl, hb1⟩
 have h01 := (hb1.block _ (by omega)).trans h0
 have h11 := (hb1.block _ hz0).trans h1
 have hB1 := hB.trans (hb1.mono hB.size)
 have hz1 := lt_of_block h11
 clear hb1 h0 h1 hB
 have H01 := hI h01
 have H11 := hI h11
 obtain ⟨d0, d1, d2, d3⟩ := law_reads h01
 clear h01 h11
 cases hnm : namedM l.name with
 | false =>
  have hr : lawE l = 17 := by unfold lawE badLaw; rw [hnm]; rfl
  have HR := hI hr; clear hr
  go_wp2
  go_ret
  exact ⟨by rw [HR.out]; rfl, hB1⟩
 | true =>
  have HNM := hI hnm; clear hnm
  go_wp2_with (refine load_pat rfl (.tmp 15) rfl w.heap.size 1 l.left.1 a.Al l.left.2.len a.cl rfl (law_left H01.out) ?_)
  refine (check_c l.left.1 a.Al a.cl l.left.2 w1 (HL.out.1.below hB1 rr)).mono ?_
  rintro e w2 ⟨rfl, hb⟩
  have h0n := (hb.block _ (by omega)).trans H01.out
  have h1n := (hb.block _ hz1).trans H11.out
  have hB2 := hB1.trans (hb.mono hB1.size)
  have hz2 := lt_of_block h1n
  clear hb d0 d1 d2 d3
  have H02 := hI h0n
  have H12 := hI h1n
  have hk2 := cell_of_one h1n
  obtain ⟨d0, d1, d2, d3⟩ := law_reads h0n
  clear h0n h1n
  by_cases hcl : checkM 40 [l.left] = 0
  case neg =>
   have hq1 : (checkM 40 [(l.left.fst, l.left.snd)] != 0) = true := by simpa using hcl
   have hr : lawE l = 17 := by unfold lawE badLaw; rw [show (checkM 40 [l.left] != 0) = true by simpa using hcl]; simp
   have HR := hI hr; clear hr hcl
   go_wp2
   go_ret
   exact ⟨by rw [HR.out]; rfl, hB2⟩
  have hq1 : (checkM 40 [(l.left.fst, l.left.snd)] != 0) = false := by simpa using hcl
  have HCL := hI hcl; clear hcl
  go_wp2_with (refine load_pat rfl (.tmp 19) rfl w.heap.size 8 l.right.1 a.Ar l.right.2.len a.cr rfl (law_right H02.out) ?_)
  clear hq1
  refine (check_c l.right.1 a.Ar a.cr l.right.2 w2 (HL.out.2.1.below hB2 rr)).mono ?_
  rintro e w3 ⟨rfl, hb⟩
  have h0n := (hb.block _ (by omega)).trans H02.out
  have h1n := (hb.block _ hz2).trans H12.out
  have hB3 := hB2.trans (hb.mono hB2.size)
  have hz3 := lt_of_block h1n
  clear hb d0 d1 d2 d3
  have H03 := hI h0n
  have H13 := hI h1n
  have hk3 := cell_of_one h1n
  obtain ⟨d0, d1, d2, d3⟩ := law_reads h0n
  clear h0n h1n
  by_cases hcr : checkM 40 [l.right] = 0
  case neg =>
   have hq1 : (checkM 40 [(l.right.fst, l.right.snd)] != 0) = true := by simpa using hcr
   have hr : lawE l = 17 := by unfold lawE badLaw; rw [show (checkM 40 [l.right] != 0) = true by simpa using hcr]; simp
   have HR := hI hr; clear hr hcr
   go_wp2
   go_ret
   exact ⟨by rw [HR.out]; rfl, hB3⟩
  have hq1 : (checkM 40 [(l.right.fst, l.right.snd)] != 0) = false := by simpa using hcr
  have HCR := hI hcr; clear hcr
  by_cases h4 : 4 < l.ifs.length
  case pos =>
   have hr : lawE l = 17 := by unfold lawE badLaw; simp [h4]
   have HR := hI hr; clear hr
   go_wp2
   go_ret
   exact ⟨by rw [HR.out]; rfl, hB3⟩
  by_cases h6 : 6 < l.outs.length
  case pos =>
   have hr : lawE l = 17 := by unfold lawE badLaw; simp [h6]
   have HR := hI hr; clear hr
   go_wp2
   go_ret
   exact ⟨by rw [HR.out]; rfl, hB3⟩
  by_cases h00 : l.ifs.length + l.outs.length = 0
  case pos =>
   have h001 : ((l.ifs.length : Int) + (l.outs.length : Int) == 0) = true := by simp; omega
   have hr : lawE l = 17 := by unfold lawE badLaw; simp [h00]
   have HR := hI hr; clear hr h00
   go_wp2
   go_ret
   exact ⟨by rw [HR.out]; rfl, hB3⟩
  have h001 : ((l.ifs.length : Int) + (l.outs.length : Int) == 0) = false := by simp; omega
  have H00 := hI h00; clear h00
  by_cases hm1 : l.mode < 1
  case pos =>
   have hr : lawE l = 17 := by unfold lawE badLaw; simp [hm1]
   have HR := hI hr; clear hr
   go_wp2
   go_ret
   exact ⟨by rw [HR.out]; rfl, hB3⟩
  by_cases hm3 : 3 < l.mode
  case pos =>
   have hr : lawE l = 17 := by unfold lawE badLaw; simp [hm3]
   have HR := hI hr; clear hr
   go_wp2
   go_ret
   exact ⟨by rw [HR.out]; rfl, hB3⟩
  have b4 : decide ((4 : Int) < (l.ifs.length : Int)) = false := by simp; omega
  have b6 : decide ((6 : Int) < (l.outs.length : Int)) = false := by simp; omega
  have b1 : decide (l.mode < 1) = false := by simpa using hm1
  have b3 : decide (3 < l.mode) = false := by simpa using hm3
  go_wp2_with fail
  refine (anySnd_c a.Ai l.ifs.length a.ci l.ifs 151 #[] (fun s => !fvalid s.1 s.2) w3 (HL.out.2.2.1.below hB3 rr) (enters_of Tryz.func151 (by kernel_rfl) rfl) (fun W _ s _ => invalid_c s.1 s.2 W)).mono ?_
  rintro e w4 ⟨rfl, hb⟩
  have h0n := (hb.block _ (by omega)).trans H03.out
  have h1n := (hb.block _ hz3).trans H13.out
  have hB4 := hB3.trans (hb.mono hB3.size)
  have hz4 := lt_of_block h1n
  clear hb d0 d1 d2 d3
  have H04 := hI h0n
  have H14 := hI h1n
  have hk4 := cell_of_one h1n
  obtain ⟨d0, d1, d2, d3⟩ := law_reads h0n
  clear h0n h1n
  cases hif : l.ifs.any (fun s => !fvalid s.1 s.2) with
  | true =>
   have hr : lawE l = 17 := by unfold lawE badLaw; rw [hif]; simp
   have HR := hI hr; clear hr hif
   go_wp2
   go_ret
   exact ⟨by rw [HR.out]; rfl, hB4⟩
  | false =>
   have HIF := hI hif; clear hif
   go_wp2_with fail
   refine (anyOut_c a.Ao l.outs.length a.co l.outs 149 #[.pointer (some ⟨Wb.heap.size, 0, none⟩)] (fun x => !fitsM x l.ifs.length) w4 (HL.out.2.2.2.1.below hB4 rr) (enters_of Tryz.func149 (by kernel_rfl) rfl) (fun W hW x _ => bad_c x _ Wb.heap.size W ((hW.cell (p := ⟨Wb.heap.size, 0, none⟩) hz4).trans hk4) (by have := hW.size; omega))).mono ?_
   rintro e w5 ⟨rfl, hb⟩
   have h0n := (hb.block _ (by omega)).trans H04.out
   have h1n := (hb.block _ hz4).trans H14.out
   have hB5 := hB4.trans (hb.mono hB4.size)
   have hz5 := lt_of_block h1n
   clear hb d0 d1 d2 d3
   have H05 := hI h0n
   have H15 := hI h1n
   have hk5 := cell_of_one h1n
   obtain ⟨d0, d1, d2, d3⟩ := law_reads h0n
   clear h0n h1n
   cases hout : l.outs.any (fun x => !fitsM x l.ifs.length) with
   | true =>
    have hr : lawE l = 17 := by unfold lawE badLaw; rw [hout]; simp
    have HR := hI hr; clear hr hout
    go_wp2
    go_ret
    exact ⟨by rw [HR.out]; rfl, hB5⟩
   | false =>
    have hr : lawE l = 0 := by
     unfold lawE badLaw
     rw [HNM.out, HCL.out, HCR.out, HIF.out, hout]
     simp [h4, h6, hm1, hm3, H00.out]
     intro h5 h6'
     exact H00.out (by rw [h5, h6']; rfl)
    have HR := hI hr; clear hr hout
    go_wp2
    go_ret
    exact ⟨by rw [HR.out]; rfl, hB5⟩
def lcheckE (l : LawD) (ws : List Snd) : Int := if lawE l = 0 then wcheck ws else lawE l
theorem lcheck_c (l : LawD) (a : LawA) (A : Option Addr) (n c : Nat) (ws : List Snd) (w : World) (hl : LawAt w l a) (hw : IsWord w A n c ws) :
  Calls Tryz.prog 197 #[lawV l a, .slice A n c] w fun e w' => e = .returned (.int .i64 (lcheckE l ws)) ∧ Below w.heap.size w w' := by
 have HL := hI hl; clear hl
 have HW := hI hw; clear hw
 obtain ⟨Wb, hWb, hrb, hlb, hBb, hzb⟩ := law_box w l a
 go_enter Tryz.func197, Tryz.ntmps197
 go_wp2_with (refine load_law rfl (.tmp 2) rfl w.heap.size l a rfl hrb ?_)
 clear hWb
 refine (lCheck_c l a _ (HL.out.below hBb rr)).mono ?_
 rintro e w1 ⟨rfl, hb1⟩
 have hB1 : Below w.heap.size w w1 := hBb.trans (hb1.mono hBb.size)
 clear hb1
 by_cases hE : lawE l = 0
 ·have hE1 : (lawE l != 0) = false := by simpa using hE
  have hr : lcheckE l ws = wcheck ws := by unfold lcheckE; rw [if_pos hE]
  have HR := hI hr; clear hr hE
  go_wp2_with fail
  refine (wCheck_c A n c ws w1 (HW.out.below hB1 rr)).mono ?_
  rintro e w2 ⟨rfl, hb2⟩
  have hB2 := hB1.trans (hb2.mono hB1.size)
  clear hb2
  go_wp2
  go_ret
  exact ⟨by rw [HR.out]; rfl, hB2⟩
 ·have hE1 : (lawE l != 0) = true := by simpa using hE
  have hr : lcheckE l ws = lawE l := by unfold lcheckE; rw [if_neg hE]
  have HR := hI hr; clear hr hE
  go_wp2
  go_ret
  exact ⟨by rw [HR.out]; rfl, hB1⟩
def fitM (l : LawD) (ws : List Snd) (at_ : Int) : Bool := !((beginsM l.left ws at_).length == 0) && decide (0 < (endsM l.right ws (at_ + l.ifs.length)).length)
theorem around_c (l : LawD) (a : LawA) (A : Option Addr) (n c : Nat) (w : World) :
  Calls Tryz.prog 216 #[lawV l a, .slice A n c] w fun e w' => e = .returned (.func (.func 225) #[] #[.pointer (some ⟨w.heap.size, 0, none⟩), .pointer (some ⟨w.heap.size + 1, 0, none⟩)]) ∧
   (w.alloc (.cells (lawCs l a) 55)).alloc (.cells #[.slice A n c] 28) = w' := by
 go_enter Tryz.func216, Tryz.ntmps216
 go_wp2
 go_ret
 exact ⟨rfl, rfl⟩
theorem hits_c (l : LawD) (a : LawA) (A : Option Addr) (n c : Nat) (frm : Int) (w : World) :
  Calls Tryz.prog 205 #[lawV l a, .slice A n c, .int .i64 frm] w fun e w' => e = .returned (.func (.func 215) #[] #[.pointer (some ⟨w.heap.size, 0, none⟩), .pointer (some ⟨w.heap.size + 1, 0, none⟩), .pointer (some ⟨w.heap.size + 1 + 1, 0, none⟩)]) ∧
   ((w.alloc (.cells (lawCs l a) 55)).alloc (.cells #[.slice A n c] 28)).alloc (.cells #[.int .i64 frm] 3) = w' := by
 go_enter Tryz.func205, Tryz.ntmps205
 go_wp2
 go_ret
 exact ⟨rfl, rfl⟩
theorem around1_c (l : LawD) (a : LawA) (A : Option Addr) (n c : Nat) (ws : List Snd) (at_ : Int) (b1 b2 : Nat) (w : World) (h1 : w.heap[b1]? = some (.cells (lawCs l a) 55 (0, 0)))
  (h2 : w.heap[b2]? = some (.cells #[.slice A n c] 28 (0, 0))) (hl : LawAt w l a) (hw : IsWord w A n c ws) (hT : TabOK w) (ha0 : 0 ≤ at_) (ha1 : at_ ≤ 4096) (hk : l.ifs.length ≤ 4096) :
  Calls Tryz.prog 225 #[.int .i64 at_, .pointer (some ⟨b1, 0, none⟩), .pointer (some ⟨b2, 0, none⟩)] w fun e w' => e = .returned (.bool (fitM l ws at_)) ∧ Below w.heap.size w w' := by
 have hb1 := lt_of_block h1
 have hb2 := lt_of_block h2
 obtain ⟨d0, d1, d2, d3⟩ := law_reads h1
 have e2 := cell_of_one h2
 have H1 := hI h1; clear h1
 have H2 := hI h2; clear h2
 have HL := hI hl; clear hl
 have HW := hI hw; clear hw
 have HT := hI hT; clear hT
 go_enter Tryz.func225, Tryz.ntmps225
 go_wp2_with (refine load_pat rfl (.tmp 10) rfl b1 1 l.left.1 a.Al l.left.2.len a.cl rfl (law_left H1.out) ?_)
 refine (begins_c l.left.1 l.left.2 a.Al a.cl A n c ws at_ w HL.out.1 HW.out HT.out).mono ?_
 rintro e w1 ⟨A1, c1, rfl, hC, hB⟩
 clear hC
 have h11 := (hB.block _ hb1).trans H1.out
 have h21 := (hB.block _ hb2).trans H2.out
 clear d0 d1 d2 d3 e2
 obtain ⟨d0, d1, d2, d3⟩ := law_reads h11
 have e2 := cell_of_one h21
 have H11 := hI h11
 clear h11 h21
 by_cases hz : (beginsM l.left ws at_).length = 0
 ·have hz1 : (((beginsM (l.left.fst, l.left.snd) ws at_).length : Int) == 0) = true := by rw [show (l.left.fst, l.left.snd) = l.left from rfl, hz]; rfl
  have hr : fitM l ws at_ = false := by unfold fitM; rw [hz]; rfl
  have HR := hI hr; clear hr hz
  go_wp2
  go_ret
  exact ⟨by rw [HR.out]; rfl, hB⟩
 ·have hz1 : (((beginsM (l.left.fst, l.left.snd) ws at_).length : Int) == 0) = false := by rw [show (l.left.fst, l.left.snd) = l.left from rfl]; simp; intro h; exact hz (by rw [h]; rfl)
  have hr : fitM l ws at_ = decide (0 < (endsM l.right ws (at_ + l.ifs.length)).length) := by unfold fitM; rw [show ((beginsM l.left ws at_).length == 0) = false by simpa using hz]; rfl
  have HR := hI hr; clear hr hz
  go_wp2_with (refine load_pat rfl (.tmp 21) rfl b1 8 l.right.1 a.Ar l.right.2.len a.cr rfl (law_right H11.out) ?_)
  refine (ends_c l.right.1 l.right.2 a.Ar a.cr A n c ws (at_ + l.ifs.length) w1 (HL.out.2.1.below hB rr) (HW.out.below hB rr) (HT.out.below hB rr)).mono ?_
  rintro e w2 ⟨A2, c2, rfl, hC2, hB2⟩
  clear hC2
  have hB3 := hB.trans (hB2.mono hB.size)
  clear hB2
  go_wp2
  go_ret
  exact ⟨by rw [HR.out]; rfl, hB3⟩
end Go.Proofs.YtaglfmlgbcmakaaGreatDoor
namespace Go.Proofs.YtaglfmlgbcmakaaGreatDoor
open Go.RowKit Go.Shelf
attribute [local go_sem] Oper.semAt_some
def condM (l : LawD) (ws : List Snd) (at_ : Nat) : Bool := (List.range l.ifs.length).all fun j => fsat (ws.getD (at_ + j) (0, 0)).1 (ws.getD (at_ + j) (0, 0)).2 (l.ifs.getD j (0, 0)).1 (l.ifs.getD j (0, 0)).2
def hitM (l : LawD) (ws : List Snd) (at_ : Nat) : Bool := decide (at_ + l.ifs.length ≤ ws.length) && condM l ws at_ && fitM l ws at_
theorem keep_of_below {S : Nat → Prop} {w w' : World} (hb : Below w.heap.size w w') : Keep S w w' := (Keep.refl S w).below hb rr
theorem wide_scope {P : Program} {n : Nat} {c : Code} {Q : Exit → Act → World → Prop} {a : Act} {w : World} (h : c.wpIn Fence.wide n P (Exit.noGoto Q) a w) : (Code.scope c).wpIn Fence.wide n P Q a w :=
 wpIn_wide.2 (wp_scope_straight (wpIn_wide.1 h))
theorem wide_region {P : Program} {n : Nat} {id : Nat} {ops : Array Oper} {Q : Exit → Act → World → Prop} {a : Act} {w : World} (S : World → Prop) (hm : P.follows .mixedOrders = true)
  (hS : S w.drew) (h : S w.drew → anyT P .any ops Q S ops.size (Array.replicate ops.size false) a w.drew) : (Code.region id ops true).wpIn Fence.wide n P Q a w :=
 wpIn_wide.2 (plain_region S hm hS h)
theorem hits1_iter (m lr b1 b2 b3 : Nat) (hm : 1 ≤ m) (l : LawD) (a : LawA) (A : Option Addr) (n c : Nat) (ws : List Snd) (frm : Nat) (J Jx : Nat → (Nat → Prop) → World → Prop) (T0 : Nat → Prop) (W : World)
  (hlt : ∀ s T W', J s T W' → ∀ k, T k → k < W'.heap.size)
  (hst : ∀ s T W' W'', J s T W' → Keep (fun k => W.heap.size ≤ k ∧ ¬ T k) W' W'' → J s T W'')
  (hrd : ∀ s T W', J s T W' → W'.heap[b1]? = some (.cells (lawCs l a) 55 (0, 0)) ∧ W'.heap[b2]? = some (.cells #[.slice A n c] 28 (0, 0)) ∧ LawAt W' l a ∧ IsWord W' A n c ws ∧ TabOK W')
  (hskip : ∀ s T W', frm ≤ s → s + l.ifs.length ≤ n → hitM l ws s = false → J s T W' → J (s + 1) T W')
  (hy : ∀ s T W', frm ≤ s → s + l.ifs.length ≤ n → hitM l ws s = true → J s T W' → YieldAt Fence.wide (m - 1) Tryz.prog lr #[.int .i64 s] W' (fun e W'' =>
   (e = .returned (.bool true) ∧ ∃ T', J (s + 1) T' W'' ∧ Keep T W' W'' ∧ ∀ k, T' k → T k ∨ W'.heap.size ≤ k) ∨ (e = .returned (.bool false) ∧ Jx s T W'')))
  (h0 : J frm T0 W) (h3 : W.cell? ⟨b3, 0, none⟩ = some (.int .i64 frm)) (hb3 : b3 < W.heap.size) (hn : n ≤ 4000) (hf : frm ≤ 4000) (hk : l.ifs.length ≤ 64) :
  CallsIn Fence.wide m Tryz.prog 215 #[.func (.yield lr) #[] #[], .pointer (some ⟨b1, 0, none⟩), .pointer (some ⟨b2, 0, none⟩), .pointer (some ⟨b3, 0, none⟩)] W fun e W' =>
   (∃ v, e = .returned v) ∧ ((∃ s T, frm ≤ s ∧ n < s + l.ifs.length ∧ J s T W') ∨ ∃ s T, Jx s T W') := by
 have hT0 := hlt _ _ _ h0
 have HLT := hI hlt; clear hlt
 have HST := hI hst; clear hst
 have HRD := hI hrd; clear hrd
 have HSK := hI hskip; clear hskip
 have HY := hI hy; clear hy
 obtain ⟨r1, r2, r3, r4, r5⟩ := HRD.out _ _ _ h0
 have hb1 := lt_of_block r1
 have hb2 := lt_of_block r2
 obtain ⟨d0, d1, d2, d3⟩ := law_reads r1
 have e2 := cell_of_one r2
 have hwl : ws.length = n := r4.len
 have HWL := hI hwl; clear hwl
 have H0 := hI h0; clear h0 r3 r4 r5
 have R1 := hI r1
 clear r1 r2
 refine callsIn_of_wp Tryz.func215 rfl trivial ?_
 simp only [Tryz.ntmps215, List.size_toArray, List.length_cons, List.length_nil, Nat.reduceAdd, Nat.reduceSub, Array.replicate_succ, Array.replicate_zero, List.push_toArray, List.append_toArray, List.nil_append, List.cons_append]
 refine wide_scope ?_
 gi_wp2_with (first | (refine load_lawIn rfl (.tmp 1) rfl b1 l a rfl R1.out ?_) | (refine ⟨trivial, ?_⟩; gi_at_call 216; refine (callsIn_wide.2 (around_c l a A n c _)).mono ?_; rintro e w1 ⟨rfl, rfl⟩))
 clear d0 d1 d2 d3 e2
 have g1 : ((W.alloc (.cells (lawCs l a) 55)).alloc (.cells #[.slice A n c] 28)).heap[W.heap.size]? = some (.cells (lawCs l a) 55 (0, 0)) := hpt
 have g2 : ((W.alloc (.cells (lawCs l a) 55)).alloc (.cells #[.slice A n c] 28)).heap[W.heap.size + 1]? = some (.cells #[.slice A n c] 28 (0, 0)) := hpt
 have g3 : Below W.heap.size W ((W.alloc (.cells (lawCs l a) 55)).alloc (.cells #[.slice A n c] 28)) := bel
 generalize ((W.alloc (.cells (lawCs l a) 55)).alloc (.cells #[.slice A n c] 28)) = W0 at *
 have J0 : Hid (J frm T0 W0) := HST.out frm T0 W W0 H0.out (keep_of_below g3)
 have e3 : W0.cell? ⟨b3, 0, none⟩ = some (.int .i64 frm) := (g3.cell (p := ⟨b3, 0, none⟩) hb3).trans h3
 have G1 := hI g1
 have G2 := hI g2
 have hW0 := lt_of_block g2
 clear g1 g2 g3 h3
 refine wpIn_label ?_
 gi_wp2
 clear e3
 gi_loopw [6] (fun i wr => ∃ (s : Nat) (T : Nat → Prop), i = .int .i64 s ∧ frm ≤ s ∧ s ≤ 4001 ∧ Hid (J s T wr) ∧ Hid (wr.heap[W.heap.size]? = some (.cells (lawCs l a) 55 (0, 0))) ∧
   Hid (wr.heap[W.heap.size + 1]? = some (.cells #[.slice A n c] 28 (0, 0))) ∧ Hid (¬ T W.heap.size ∧ ¬ T (W.heap.size + 1))) (fun i _ => 4002 - (intOf i).toNat)
 case atStart => exact ⟨frm, T0, rfl, rr, by omega, J0, G1, G2, fun h => by have := hT0 _ h; omega, fun h => by have := hT0 _ h; omega⟩
 case round =>
  obtain ⟨s, T, rfl, hfs, hs4, HJ, hg1, hg2, hTb⟩ := hrel
  obtain ⟨r1, r2, r3, r4, r5⟩ := HRD.out _ _ _ HJ.out
  have hb1r := lt_of_block r1
  have hb2r := lt_of_block r2
  obtain ⟨d0, d1, d2, d3⟩ := law_reads r1
  have e2 := cell_of_one r2
  have hwr := lt_of_block hg2.out
  have hki := r3.2.2.1.max
  clear r1 r2
  obtain ⟨Ai, hAi0⟩ : ∃ Ai, Ai = a.Ai := ⟨_, rfl⟩
  have hiw : IsWord wr Ai l.ifs.length a.ci l.ifs := by rw [hAi0]; exact r3.2.2.1
  rw [← hAi0] at d1
  clear hAi0
  have HIW := hI hiw; clear hiw
  have R3 := hI r3; clear r3
  have R4 := hI r4; clear r4
  have R5 := hI r5; clear r5
  by_cases hin : s + l.ifs.length ≤ n
  ·have hin' : ((s : Int) + (l.ifs.length : Int) ≤ (n : Int)) := by omega
   gi_wp2
   obtain ⟨wo, rfl⟩ : ∃ wo : World, wo = wr := ⟨_, rfl⟩
   clear d0 d1 d2 d3 e2
   gi_loopw [7, 8, 26] (fun _ _ i wr => ∃ j : Nat, i = .int .i64 j ∧ j ≤ l.ifs.length ∧ Hid ((List.range j).all (fun j => fsat (ws.getD (s + j) (0, 0)).1 (ws.getD (s + j) (0, 0)).2 (l.ifs.getD j (0, 0)).1 (l.ifs.getD j (0, 0)).2) = true) ∧ Below wo.heap.size wo wr)
    (fun _ _ i _ => l.ifs.length - (intOf i).toNat)
   case atStart => exact ⟨0, rfl, Nat.zero_le _, by simp [Hid], Below.refl _ _⟩
   case round =>
    obtain ⟨j, rfl, hj, hall, hB⟩ := hrel
    have hBs := hB.size
    have r1 := (hB.block _ hb1r).trans (HRD.out _ _ _ HJ.out).1
    have r2 := (hB.block _ hb2r).trans (HRD.out _ _ _ HJ.out).2.1
    by_cases hjl : j < l.ifs.length
    ·obtain ⟨bi, oi, p, q, rfl, hbil, hcx, hi0, hi1⟩ := (HIW.out.below hB rr).at_ hjl
     obtain ⟨bw, ow, p', q', rfl, hbwl, hwx, hw0, hw1⟩ := (R4.out.below hB rr).at_ (k := s + j) (by omega)
     have e2 := cell_of_one r2
     have hfs1 : fsat (ws.getD (s + j) (0, 0)).1 (ws.getD (s + j) (0, 0)).2 (l.ifs.getD j (0, 0)).1 (l.ifs.getD j (0, 0)).2 = fsat p' q' p q := by rw [getD_of hwx, getD_of hcx]
     have HFS := hI hfs1
     clear r1 r2 hcx hwx hfs1
     have hjl' : (j : Int) < (l.ifs.length : Int) := by omega
     gi_wp2
     have hbwn : bw ≠ wr.heap.size := by omega
     have e2' : (wr.alloc (.cells #[.int .u32 p, .int .u32 q] 49)).cell? ⟨b2, 0, none⟩ = some (.slice (some ⟨bw, ow, none⟩) n c) := (cell_new_block (by omega)).trans e2
     have w0' : (wr.alloc (.cells #[.int .u32 p, .int .u32 q] 49)).cell? ⟨bw, ow + (s + j) * 2, none⟩ = some (.int .u32 p') := (cell_new_block hbwl).trans hw0
     have w1' : (wr.alloc (.cells #[.int .u32 p, .int .u32 q] 49)).cell? ⟨bw, ow + (s + j) * 2 + 1, none⟩ = some (.int .u32 q') := (cell_new_block hbwl).trans hw1
     have c0' : (wr.alloc (.cells #[.int .u32 p, .int .u32 q] 49)).cell? ⟨wr.heap.size, 0, none⟩ = some (.int .u32 p) := cell_new_at rfl
     have c1' : (wr.alloc (.cells #[.int .u32 p, .int .u32 q] 49)).cell? ⟨wr.heap.size, 1, none⟩ = some (.int .u32 q) := cell_new_at rfl
     have hBU : Below wo.heap.size wo (wr.alloc (.cells #[.int .u32 p, .int .u32 q] 49)) := hB.alloc hBs _
     have hUs : wr.heap.size < (wr.alloc (.cells #[.int .u32 p, .int .u32 q] 49)).heap.size := by simp
     generalize (wr.alloc (.cells #[.int .u32 p, .int .u32 q] 49)) = U at *
     clear hi0 hi1 hw0 hw1 e2
     have HBU := hI hBU; clear hBU
     have hsj : ((s : Int) + (j : Int)).toNat = s + j := by omega
     have hsj2 : (0 : Int) ≤ (s : Int) + (j : Int) := by omega
     have hsj3 : (s : Int) + (j : Int) < (n : Int) := by omega
     have hwr3 : IntKind.i64.wrap ((s : Int) + (j : Int)) = (s : Int) + (j : Int) := IntWalk.i64_in _ (by omega)
     refine wide_region (fun W' => W'.cell? ⟨b2, 0, none⟩ = some (.slice (some ⟨bw, ow, none⟩) n c) ∧ W'.cell? ⟨bw, ow + (s + j) * 2, none⟩ = some (.int .u32 p') ∧ W'.cell? ⟨bw, ow + (s + j) * 2 + 1, none⟩ = some (.int .u32 q') ∧
      W'.cell? ⟨wr.heap.size, 0, none⟩ = some (.int .u32 p) ∧ W'.cell? ⟨wr.heap.size, 1, none⟩ = some (.int .u32 q)) (by kernel_rfl) ⟨e2', w0', w1', c0', c1'⟩ (fun hHeld => ?_)
     (refine' anyT_tk 0 rfl ?_; (try simp only [Act.put, nY, nX])); (refine' anyT_tk 1 rfl ?_; (try simp only [Act.put, nY, nX])); (refine' anyT_tk 2 rfl ?_; (try simp only [Act.put, nY, nX])); (refine' anyT_tk 3 rfl ?_; (try simp only [Act.put, nY, nX])); (refine' anyT_tk 4 rfl ?_; (try simp only [Act.put, nY, nX])); (refine' anyT_tk 5 rfl ?_; (try simp only [Act.put, nY, nX])); (refine' anyT_tk 6 rfl ?_; (try simp only [Act.put, nY, nX]))
     (refine anyT_sp 7 rfl (fun K' hK' => ?_); simp only [nY]; go_simp)
     refine (fSat_c p' q' p q _).mono ?_
     rintro e w2 ⟨rfl, hb2⟩
     have hUd : U.drew.heap.size = U.heap.size := rfl
     have hB2 : Below wo.heap.size wo w2 := HBU.out.drew.trans (hb2.mono (by have := HBU.out.size; omega))
     refine hK' _ _ ⟨.inr ⟨(hb2.cell (p := ⟨b2, 0, none⟩) (by simp; omega)).trans hHeld.1, (hb2.cell (p := ⟨bw, _, none⟩) (by simp; omega)).trans hHeld.2.1, (hb2.cell (p := ⟨bw, _, none⟩) (by simp; omega)).trans hHeld.2.2.1,
      (hb2.cell (p := ⟨wr.heap.size, _, none⟩) (by simp; omega)).trans hHeld.2.2.2.1, (hb2.cell (p := ⟨wr.heap.size, _, none⟩) (by simp; omega)).trans hHeld.2.2.2.2⟩, fun _ => ?_⟩
     clear hK' K' hb2 hUd
     (try simp only [Act.put, nY, nX])
     (refine anyT_sp 8 rfl (fun K' hK' => ?_); simp only [nY]; go_simp)
     refine hK' _ _ ⟨.inl (by kernel_rfl), fun _ => anyT_done (by kernel_rfl) ?_ _⟩
     clear hK' K'
     cases hff : fsat p' q' p q with
     | true =>
      have HFF := hI hff; clear hff
      gi_wp2
      go_roundw
      case rel =>
       refine ⟨j + 1, by go_num, by omega, ?_, hB2⟩
       show List.all _ _ = true
       rw [List.range_succ, List.all_append, hall.out]
       simp only [List.all_cons, List.all_nil, Bool.and_true, Bool.true_and]
       rw [HFS.out, HFF.out]
      case measure => simp [intOf]; omega
     | false =>
      have HFF := hI hff; clear hff
      have hnh : hitM l ws s = false := by
       have hcd : condM l ws s = false := by
        unfold condM
        apply Bool.eq_false_iff.2
        intro hall2
        have := List.all_eq_true.1 hall2 j (List.mem_range.2 hjl)
        rw [HFS.out, HFF.out] at this
        cases this
       unfold hitM; rw [hcd]; simp
      have HNH := hI hnh; clear hnh
      gi_wp2
      go_roundw
      case rel =>
       have hKB : Keep (fun k => W.heap.size ≤ k ∧ ¬ T k) wo w2 := keep_of_below hB2
       exact ⟨s + 1, T, by go_num, by omega, by omega, HST.out _ _ _ _ (HSK.out s T wo hfs hin HNH.out HJ.out) hKB, (hB2.block _ (by omega)).trans hg1.out, (hB2.block _ (by omega)).trans hg2.out, hTb⟩
      case measure => simp [intOf]; omega
    ·obtain rfl : j = l.ifs.length := by omega
     have hcd : condM l ws s = true := hall.out
     have HCD := hI hcd; clear hcd
     have hJwr := HST.out _ _ _ _ HJ.out (keep_of_below (S := fun k => W.heap.size ≤ k ∧ ¬ T k) hB)
     obtain ⟨q1, q2, q3, q4, q5⟩ := HRD.out _ _ _ hJwr
     have HJW := hI hJwr; clear hJwr q1 q2 r1 r2
     have Q3 := hI q3; have Q4 := hI q4; have Q5 := hI q5; clear q3 q4 q5
     have G1W := hI ((hB.block _ (by omega)).trans hg1.out)
     have G2W := hI ((hB.block _ hwr).trans hg2.out)
     gi_wp2
     refine ⟨trivial, ?_⟩
     refine (callsIn_wide.2 (around1_c l a A n c ws s W.heap.size (W.heap.size + 1) wr G1W.out G2W.out Q3.out Q4.out Q5.out (by omega) (by omega) (by omega))).mono ?_
     rintro e w2 ⟨rfl, hb2⟩
     have hB2s := hb2.size
     have HJ2 := hI (HST.out _ _ _ _ HJW.out (keep_of_below (S := fun k => W.heap.size ≤ k ∧ ¬ T k) hb2))
     have G12 := hI ((hb2.block _ (lt_of_block G1W.out)).trans G1W.out)
     have G22 := hI ((hb2.block _ (lt_of_block G2W.out)).trans G2W.out)
     clear hb2
     cases hfm : fitM l ws s with
     | false =>
      have hnh : hitM l ws s = false := by unfold hitM; rw [hfm]; simp
      have HNH := hI hnh; clear hnh hfm
      gi_wp2
      refine ⟨fun _ h => (by cases h), ?_⟩
      gi_wp2
      go_roundw
      case rel => exact ⟨s + 1, T, by go_num, by omega, by omega, HSK.out s T w2 hfs hin HNH.out HJ2.out, G12, G22, hTb⟩
      case measure => simp [intOf]; omega
     | true =>
      have hh : hitM l ws s = true := by unfold hitM; rw [hfm, HCD.out]; simp; rw [HWL.out]; exact hin
      have HH := hI hh; clear hh hfm
      obtain ⟨fn, tmps, assign, body, hyr, hR⟩ := HY.out s T w2 hfs hin HH.out HJ2.out
      have HR := hI hR; clear hR
      gi_wp2
      refine HR.out.mono ?_
      rintro e W3 (⟨rfl, T', hJ', hKp, hT'⟩ | ⟨rfl, hx⟩)
      ·have HJ3 := hI hJ'; clear hJ'
       have g13 := hI ((hKp.block _ (lt_of_block G12.out) hTb.out.1).trans G12.out)
       have g23 := hI ((hKp.block _ (lt_of_block G22.out) hTb.out.2).trans G22.out)
       have HT' := hI hT'; clear hT' hKp
       gi_wp2
       go_roundw
       case rel => exact ⟨s + 1, T', by go_num, by omega, by omega, HJ3, g13, g23, fun h => (HT'.out _ h).elim hTb.out.1 (by omega), fun h => (HT'.out _ h).elim hTb.out.2 (by omega)⟩
       case measure => simp [intOf]; omega
      ·have HX := hI hx; clear hx
       gi_wp2
       simp only [Exit.noGoto]
       refine bodyPost_ret (results_none rfl _ _ _) rfl ?_
       exact ⟨⟨_, rfl⟩, .inr ⟨s, T, HX.out⟩⟩
  ·have hin' : decide ((s : Int) + (l.ifs.length : Int) ≤ (n : Int)) = false := by simp; omega
   gi_wp2
   simp only [Exit.noGoto]
   go_end0
   exact ⟨⟨_, rfl⟩, .inl ⟨s, T, hfs, by omega, HJ.out⟩⟩
end Go.Proofs.YtaglfmlgbcmakaaGreatDoor
namespace Go.Proofs.YtaglfmlgbcmakaaGreatDoor
open Go.RowKit Go.Shelf
attribute [local go_sem] Oper.semAt_some
theorem results_cell_bool {fn : Func} {p : Tmp} (h : fn.results = #[.cell p 4]) (tmps : Array Value) (w : World) (b : Nat) (v : Bool) (hp : tmps.getD p undef = .pointer (some ⟨b, 0, none⟩)) (hr : w.cell? ⟨b, 0, none⟩ = some (.bool v)) :
  (results fn tmps).run Tryz.prog w = .ok (.bool v) w := by
 have hp' : tmps[p]?.getD undef = .pointer (some ⟨b, 0, none⟩) := by simpa using hp
 simp [results, h, hp', asAddr, loadVar, go_sem, hr]
theorem hit_c (l : LawD) (a : LawA) (A : Option Addr) (n c : Nat) (ws : List Snd) (at_ : Nat) (w : World) (hl : LawAt w l a) (hw : IsWord w A n c ws) (hT : TabOK w) (hn : n ≤ 4000) (hat : at_ ≤ 4000) (hk : l.ifs.length ≤ 64) :
  Calls Tryz.prog 208 #[lawV l a, .slice A n c, .int .i64 at_] w fun e w' => e = .returned (.bool (hitM l ws at_)) ∧ Below w.heap.size w w' := by
 have hwl : ws.length = n := hw.len
 have HWL := hI hwl; clear hwl
 have HL := hI hl; clear hl
 have HW := hI hw; clear hw
 have hTl := hT.1
 have HT := hI hT; clear hT
 obtain ⟨Wb, hWb, hrb, hlb, hBb, hzb⟩ := law_box w l a
 refine (callsIn_wide (n := 9)).1 (callsIn_of_wp_marks Tryz.func208 rfl trivial ?_ rfl)
 simp only [Tryz.ntmps208, List.size_toArray, List.length_cons, List.length_nil, Nat.reduceAdd, Nat.reduceSub, Array.replicate_succ, Array.replicate_zero, List.push_toArray, List.append_toArray, List.nil_append, List.cons_append]
 gi_wp2_with (refine load_lawIn rfl (.tmp 3) rfl w.heap.size l a rfl (t := 55) (fr := (0, 0)) (by repeat (first | exact hrb | rw [heap_old_at sd])) ?_)
 clear hWb
 refine ⟨trivial, ?_⟩
 refine (callsIn_wide.2 (hits_c l a A n c at_ _)).mono ?_
 rintro e w1 ⟨rfl, rfl⟩
 gi_wp2
 -- the world behind the call of hits
 have hs0 : ((Wb.alloc (.cells #[.int .i64 (at_ : Int)] 3)).alloc (.cells #[.bool false] 4)).heap.size = Wb.heap.size + 1 + 1 := by simp
 have r6 : ((Wb.alloc (.cells #[.int .i64 (at_ : Int)] 3)).alloc (.cells #[.bool false] 4)).heap[Wb.heap.size + 1]? = some (.cells #[.bool false] 4 (0, 0)) := heap_new_at (by simp)
 have r5 : ((Wb.alloc (.cells #[.int .i64 (at_ : Int)] 3)).alloc (.cells #[.bool false] 4)).heap[Wb.heap.size]? = some (.cells #[.int .i64 (at_ : Int)] 3 (0, 0)) := (heap_old_at (by simp)).trans (heap_new_at rfl)
 have hB0 : Below w.heap.size w ((Wb.alloc (.cells #[.int .i64 (at_ : Int)] 3)).alloc (.cells #[.bool false] 4)) := (hBb.alloc hBb.size _).alloc (by have := hBb.size; simp; omega) _
 generalize ((Wb.alloc (.cells #[.int .i64 (at_ : Int)] 3)).alloc (.cells #[.bool false] 4)) = V0 at *
 have k1 : (((V0.alloc (.cells (lawCs l a) 55)).alloc (.cells #[.slice A n c] 28)).alloc (.cells #[.int .i64 (at_ : Int)] 3)).heap[V0.heap.size]? = some (.cells (lawCs l a) 55 (0, 0)) := hpt
 have k2 : (((V0.alloc (.cells (lawCs l a) 55)).alloc (.cells #[.slice A n c] 28)).alloc (.cells #[.int .i64 (at_ : Int)] 3)).heap[V0.heap.size + 1]? = some (.cells #[.slice A n c] 28 (0, 0)) := hpt
 have k3 : (((V0.alloc (.cells (lawCs l a) 55)).alloc (.cells #[.slice A n c] 28)).alloc (.cells #[.int .i64 (at_ : Int)] 3)).heap[V0.heap.size + 1 + 1]? = some (.cells #[.int .i64 (at_ : Int)] 3 (0, 0)) := hpt
 have kK : Keep (fun _ => False) V0 (((V0.alloc (.cells (lawCs l a) 55)).alloc (.cells #[.slice A n c] 28)).alloc (.cells #[.int .i64 (at_ : Int)] 3)) := (((Keep.refl _ _).alloc _).alloc _).alloc _
 generalize hV1 : (((V0.alloc (.cells (lawCs l a) 55)).alloc (.cells #[.slice A n c] 28)).alloc (.cells #[.int .i64 (at_ : Int)] 3)) = V1 at *
 clear hV1
 rw [hs0] at k1 k2 k3
 have hs1 := lt_of_block k3
 have hs0' := Nat.le_of_eq hs0
 have HS0 := hI hs0; clear hs0
 refine wide_range (gf := 215) (lb := #[.pointer (some ⟨Wb.heap.size + 1 + 1, 0, none⟩), .pointer (some ⟨Wb.heap.size + 1 + 1 + 1, 0, none⟩), .pointer (some ⟨Wb.heap.size + 1 + 1 + 1 + 1, 0, none⟩)]) rfl (enters_of Tryz.func215 (by kernel_rfl) rfl) fun fn D lr rc W1 hrc hD hlr hK2 hD1 hl1 hs2 => ?_
 have HRC := hI hrc; clear hrc
 have hDg : Wb.heap.size + 1 + 1 + 1 + 1 < D := by omega
 have hDl : D < lr := by omega
 have hlW : lr < W1.heap.size := by omega
 have hs2' := Nat.le_of_eq hs2
 have hV1D := Nat.le_of_eq hD.symm
 clear hs2 hD hlr
 have hKW : Keep (fun _ => False) V0 W1 := kK.trans hK2
 have hBW1 : Below w.heap.size w W1 := hB0.trans (hKW.to_below (fun k hk => hk.elim) hB0.size)
 have r51 : W1.heap[Wb.heap.size]? = some (.cells #[.int .i64 (at_ : Int)] 3 (0, 0)) := (hKW.block _ (by have := HS0.out; omega) (by simp)).trans r5
 have r61 : W1.heap[Wb.heap.size + 1]? = some (.cells #[.bool false] 4 (0, 0)) := (hKW.block _ (by have := HS0.out; omega) (by simp)).trans r6
 have k11 := (hK2.block _ (by omega) (by simp)).trans k1
 have k21 := (hK2.block _ (by omega) (by simp)).trans k2
 have k31 := (hK2.block _ (by omega) (by simp)).trans k3
 obtain ⟨J, hJ⟩ : ∃ J : Nat → (Nat → Prop) → World → Prop, J = fun s T W => T = (fun k => k = Wb.heap.size + 1 ∨ k = lr) ∧ (∀ x, at_ ≤ x → x < s → hitM l ws x = false) ∧ Keep T W1 W ∧
   W.heap[Wb.heap.size + 1]? = some (.cells #[.bool false] 4 (0, 0)) ∧ W.heap[lr]? = some (.loop (rc .ready none)) := ⟨_, rfl⟩
 have HJ := hI hJ; clear hJ
 obtain ⟨Jx, hJx⟩ : ∃ Jx : Nat → (Nat → Prop) → World → Prop, Jx = fun s _ W => (∀ x, at_ ≤ x → x < s → hitM l ws x = false) ∧ hitM l ws s = true ∧ at_ ≤ s ∧ Keep (fun k => k = Wb.heap.size + 1 ∨ k = lr) W1 W ∧
   W.heap[Wb.heap.size + 1]? = some (.cells #[.bool ((s : Int) == (at_ : Int))] 4 (0, 0)) ∧ W.heap[lr]? = some (.loop (rc .done (some .ret))) := ⟨_, rfl⟩
 have HJx := hI hJx; clear hJx
 refine (hits1_iter (9 - 1) lr (Wb.heap.size + 1 + 1) (Wb.heap.size + 1 + 1 + 1) (Wb.heap.size + 1 + 1 + 1 + 1) (by omega) l a A n c ws at_ J Jx (fun k => k = Wb.heap.size + 1 ∨ k = lr) W1 ?hlt ?hst ?hrd ?hskip ?hy ?h0 (cell_of_one k31) (by omega) hn hat hk).mono ?_
 case hlt =>
  intro s T W hx k hk
  rw [HJ.out] at hx
  obtain ⟨rfl, _, h3, h4, h5⟩ := hx
  rcases hk with rfl | rfl
  ·exact lt_of_block h4
  ·exact lt_of_block h5
 case hst =>
  intro s T W W' hx hKe
  rw [HJ.out] at hx ⊢
  obtain ⟨rfl, h2, h3, h4, h5⟩ := hx
  have hnt : ∀ k, k < W1.heap.size → ¬ (W1.heap.size ≤ k ∧ ¬ (k = Wb.heap.size + 1 ∨ k = lr)) := fun k h1 h2 => by omega
  exact ⟨rfl, h2, (h3.mono (S' := fun k => (k = Wb.heap.size + 1 ∨ k = lr) ∨ (W1.heap.size ≤ k ∧ ¬ (k = Wb.heap.size + 1 ∨ k = lr))) (fun k h => .inl h)).trans (hKe.mono (fun k h => .inr h)) |>.old (fun k h1 h2 => by omega),
   (hKe.block _ (lt_of_block h4) (hnt _ (by omega))).trans h4, (hKe.block _ (lt_of_block h5) (hnt _ hlW)).trans h5⟩
 case hrd =>
  intro s T W hx
  rw [HJ.out] at hx
  obtain ⟨rfl, h2, h3, h4, h5⟩ := hx
  have hBW : Below w.heap.size w W := hBW1.trans (h3.to_below (fun k hk => by have := hBb.size; omega) hBW1.size)
  exact ⟨(h3.block _ (by omega) (by omega)).trans k11, (h3.block _ (by omega) (by omega)).trans k21, HL.out.below hBW rr, HW.out.below hBW rr, HT.out.below hBW rr⟩
 case hskip =>
  intro s T W h1 h2 h3 hx
  rw [HJ.out] at hx ⊢
  obtain ⟨rfl, q2, q3, q4, q5⟩ := hx
  refine ⟨rfl, fun x hx1 hx2 => ?_, q3, q4, q5⟩
  rcases Nat.lt_or_ge x s with h | h
  ·exact q2 x hx1 h
  ·obtain rfl : x = s := by omega
   exact h3
 case h0 =>
  rw [HJ.out]
  exact ⟨rfl, fun x h1 h2 => by omega, Keep.refl _ _, r61, hl1⟩
 case hy =>
  intro s T W h1 h2 h3 hx
  rw [HJ.out] at hx
  obtain ⟨rfl, q2, q3, q4, q5⟩ := hx
  refine wide_round HRC.out q5 rfl ?_
  have Q2 := hI q2; clear q2
  have Q3 := hI q3; clear q3
  have Q4 := hI q4; clear q4
  have Q5 := hI q5; clear q5
  have H3 := hI h3; clear h3
  gi_wp2
  refine ⟨Q5.out, ?_⟩
  have hll := lt_of_block Q5.out
  have p5 : (W.putObj lr (.loop (rc .busy none))).heap[lr]? = some (.loop (rc .busy none)) := World.putObj_heap_same hll
  have p4 : (W.putObj lr (.loop (rc .busy none))).heap[Wb.heap.size + 1]? = some (.cells #[.bool false] 4 (0, 0)) := (World.putObj_heap_other (by omega)).trans Q4.out
  have p6 : (W.putObj lr (.loop (rc .busy none))).heap[Wb.heap.size]? = some (.cells #[.int .i64 (at_ : Int)] 3 (0, 0)) := (World.putObj_heap_other (by omega)).trans ((Q3.out.block _ (by omega) (by omega)).trans r51)
  have pK : Keep (fun k => k = Wb.heap.size + 1 ∨ k = lr) W1 (W.putObj lr (.loop (rc .busy none))) := Q3.out.putObj (by simp) _
  generalize W.putObj lr (.loop (rc .busy none)) = V at *
  have c4 := cell_of_one p4
  have f4 := free_of_one p4
  have c6 := cell_of_one p6
  have P4 := hI p4; clear p4
  have P5 := hI p5; clear p5
  have PK := hI pK; clear pK p6
  gi_wp2
  have s4 := one_setCell (u := .bool ((s : Int) == (at_ : Int))) P4.out
  have s5 := (Below.heap_setCell V ⟨Wb.heap.size + 1, 0, none⟩ (.bool ((s : Int) == (at_ : Int))) lr (by simp; omega)).trans P5.out
  have sK := PK.out.setCell (p := ⟨Wb.heap.size + 1, 0, none⟩) (by simp) (.bool ((s : Int) == (at_ : Int)))
  refine ⟨s5, .inr ⟨rfl, ?_⟩⟩
  rw [HJx.out]
  exact ⟨Q2.out, H3.out, h1, sK.putObj (by simp) _, (World.putObj_heap_other (by omega)).trans s4, World.putObj_heap_same (lt_of_block s5)⟩
 ·rintro e W' ⟨⟨v, rfl⟩, ⟨s, T, q1, q2, hx⟩ | ⟨s, T, hx⟩⟩
  ·rw [HJ.out] at hx
   obtain ⟨rfl, h2, h3, h4, h5⟩ := hx
   refine .inl ⟨h5, ?_⟩
   have hnh : hitM l ws at_ = false := by
    rcases Nat.lt_or_ge at_ s with h | h
    ·exact h2 at_ rr h
    ·unfold hitM; rw [show decide (at_ + l.ifs.length ≤ ws.length) = false by rw [HWL.out]; simp; omega]; rfl
   have HNH := hI hnh; clear hnh
   have hKf := h3.putObj (l := lr) (by simp) (.loop (rc .exhausted none))
   have h4f : (W'.putObj lr (.loop (rc .exhausted none))).heap[Wb.heap.size + 1]? = some (.cells #[.bool false] 4 (0, 0)) := (World.putObj_heap_other (by omega)).trans h4
   generalize W'.putObj lr (.loop (rc .exhausted none)) = X at *
   have c4 := cell_of_one h4f
   have f4 := free_of_one h4f
   have HKf := hI hKf; clear hKf h2 h3 h4 h5
   have H4f := hI h4f; clear h4f
   gi_wp2
   have s4 := one_setCell (u := .bool false) H4f.out
   have sK := HKf.out.setCell (p := ⟨Wb.heap.size + 1, 0, none⟩) (by simp) (.bool false)
   have hM : Marks w.heap.size (X.setCell ⟨Wb.heap.size + 1, 0, none⟩ (.bool false)) [mark D] := ⟨D, rfl, by omega, (sK.block D (by omega) (by omega)).trans hD1, by simp, trivial⟩
   refine post_ret (B := w.heap.size) hM fun w' hw' => ⟨.bool false, results_cell_bool Tryz.results208 _ _ (Wb.heap.size + 1) false rfl (cell_of_one (hw'.row s4)), by rw [HNH.out], ?_⟩
   exact (hBW1.trans (sK.to_below (fun k hk => by omega) hBW1.size)).trans hw'.below
  ·rw [HJx.out] at hx
   obtain ⟨h2, h2b, hsa, h3, h4, h5⟩ := hx
   refine .inr ⟨.ret, h5, ?_⟩
   have hnh : hitM l ws at_ = ((s : Int) == (at_ : Int)) := by
    by_cases e : at_ = s
    ·subst e; simp [h2b]
    ·rw [h2 at_ rr (by omega)]; symm; simp; omega
   have HNH := hI hnh; clear hnh
   have hKf := h3.putObj (l := lr) (by simp) (.loop (rc .exhausted (some .ret)))
   have h4f : (W'.putObj lr (.loop (rc .exhausted (some .ret)))).heap[Wb.heap.size + 1]? = some (.cells #[.bool ((s : Int) == (at_ : Int))] 4 (0, 0)) := (World.putObj_heap_other (by omega)).trans h4
   generalize W'.putObj lr (.loop (rc .exhausted (some .ret))) = X at *
   have HKf := hI hKf; clear hKf h2 h3 h4 h5 h2b
   have H4f := hI h4f; clear h4f
   gi_wp2
   have hM : Marks w.heap.size X [mark D] := ⟨D, rfl, by omega, (HKf.out.block D (by omega) (by omega)).trans hD1, by simp, trivial⟩
   refine post_ret (B := w.heap.size) hM fun w' hw' => ⟨.bool ((s : Int) == (at_ : Int)), results_cell_bool Tryz.results208 _ _ (Wb.heap.size + 1) _ rfl (cell_of_one (hw'.row H4f.out)), by rw [HNH.out], ?_⟩
   exact (hBW1.trans (HKf.out.to_below (fun k hk => by omega) hBW1.size)).trans hw'.below
end Go.Proofs.YtaglfmlgbcmakaaGreatDoor
namespace Go.Proofs.YtaglfmlgbcmakaaGreatDoor
open Go.RowKit Go.Shelf
def putS (cut : List Snd) (x : OutD) : Snd :=
 let s0 : Snd := if 0 ≤ x.frm then cut.getD x.frm.toNat (0, 0) else (0, 0)
 let s1 := changeM s0 x.clear (x.sp, x.sm)
 if x.take ≠ 0 then takeM s1 (cut.getD x.of_.toNat (0, 0)) x.take else s1
def putM (l : LawD) (cut : List Snd) : List Snd := l.outs.map (putS cut)
theorem fits_bounds {x : OutD} {k : Int} (h : fitsM x k = true) : x.frm < k ∧ (x.take ≠ 0 → 0 ≤ x.of_ ∧ x.of_ < k) := by
 unfold fitsM at h
 split at h
 ·cases h
 ·rename_i h1
  split at h
  ·cases h
  ·simp only [Bool.or_eq_true, decide_eq_true_eq, not_or] at h1
   refine ⟨by omega, fun ht => ?_⟩
   rw [if_neg (by simpa using ht)] at h
   simpa using h
theorem word_one (w : World) (p q : Int) (t : TypeId) : IsWord (w.alloc (.cells #[.int .u32 p, .int .u32 q] t)) (some ⟨w.heap.size, 0, none⟩) 1 1 [(p, q)] := by
 refine ⟨rfl, rr, by unfold maxLen; omega, (fun h => by cases h), fun _ => ⟨w.heap.size, 0, rfl, by simp, fun j v hv => ?_⟩⟩
 rw [Nat.zero_add]
 refine cell_new_at ?_
 simpa [wcells] using hv
theorem put_c (l : LawD) (a : LawA) (A : Option Addr) (c : Nat) (cut : List Snd) (w : World) (hl : LawAt w l a) (hw : IsWord w A l.ifs.length c cut) (hfit : ∀ x ∈ l.outs, fitsM x l.ifs.length = true) (hm : l.outs.length ≤ 64) :
  Calls Tryz.prog 207 #[lawV l a, .slice A l.ifs.length c] w (RetWord w (putM l cut)) := by
 have hk63 := hw.max
 have hcl := hw.len
 have HCL := hI hcl; clear hcl
 have HL := hI hl; clear hl
 have HW := hI hw; clear hw
 have HF := hI hfit; clear hfit
 obtain ⟨Wb, hWb, hrb, hlb, hBb, hzb⟩ := law_box w l a
 obtain ⟨d0, d1, d2, d3⟩ := law_reads hrb
 obtain ⟨Ao, hAo⟩ : ∃ Ao, Ao = a.Ao := ⟨_, rfl⟩
 rw [← hAo] at d2
 have hro : Recs OutD.cells 6 w Ao l.outs.length a.co l.outs := by rw [hAo]; exact HL.out.2.2.2.1
 have HRO := hI hro
 clear hAo hro
 go_enter Tryz.func207, Tryz.ntmps207
 go_wp2
 clear hWb d0 d1 d2 d3
 have HRB := hI hrb; clear hrb
 go_loopw [5, 12] (fun v i wr => ∃ j : Nat, i = .int .i64 j ∧ j ≤ l.outs.length ∧ Hid (wr.ownsRow Wb.heap.size 49 2 v j (wcells ((l.outs.take j).map (putS cut)))) ∧ Below w.heap.size w wr) (fun _ i _ => l.outs.length - (intOf i).toNat)
 case atStart => exact ⟨0, rfl, Nat.zero_le _, World.ownsRow_nil _ _ _ _, hBb⟩
 case round =>
  obtain ⟨j, rfl, hj, hown, hB⟩ := hrel
  have hBs := hB.size
  by_cases hjl : j < l.outs.length
  ·obtain ⟨x, hx⟩ : ∃ x, l.outs[j]? = some x := ⟨l.outs[j], List.getElem?_eq_getElem _⟩
   obtain ⟨b, off, rfl, hbl, hcs⟩ := (HRO.out.below hB rr).at_ OutD.len (by decide) hx
   obtain ⟨hb1, hb2⟩ := fits_bounds (HF.out x (List.mem_of_getElem? hx))
   have g0 := hcs 0 _ rfl
   have g1 := hcs 1 _ rfl
   have g2 := hcs 2 _ rfl
   have g3 := hcs 3 _ rfl
   have g4 := hcs 4 _ rfl
   have g5 := hcs 5 _ rfl
   simp only [Nat.add_zero, ← Nat.add_assoc] at g0 g1 g2 g3 g4 g5
   have HX := hI hx
   have HB2 := hI hb2
   clear hcs hx hb2
   obtain ⟨s0, hs0⟩ : ∃ s0 : Snd, s0 = if 0 ≤ x.frm then cut.getD x.frm.toNat (0, 0) else (0, 0) := ⟨_, rfl⟩
   have hwr0 : IsWord wr A l.ifs.length c cut := HW.out.below hB rr
   have HWR := hI hwr0; clear hwr0
   obtain ⟨fr, hfr⟩ : ∃ fr, fr = x.frm := ⟨_, rfl⟩
   have HSO := hI hs0.symm
   rw [← hfr] at g0 hb1 hs0
   have HFR := hI hfr; clear hfr
   by_cases h0 : 0 ≤ fr
   case' pos =>
    obtain ⟨f, rfl⟩ : ∃ f : Nat, fr = f := ⟨fr.toNat, by omega⟩
    obtain ⟨bw, ow, p, q, hAw, hbwl, hwx, hw0, hw1⟩ := HWR.out.at_ (k := f) (by omega)
    have hs1 : s0 = (p, q) := by rw [hs0, if_pos h0, Int.toNat_natCast, getD_of hwx]
    have HS0 := hI hs1
    have hfl : (f : Int) < (l.ifs.length : Int) := by omega
    subst hAw
    clear h0 hb1 hs0 hs1 hwx
   case' neg =>
    have hs1 : s0 = (0, 0) := by rw [hs0, if_neg h0]
    have HS0 := hI hs1
    have hfl : fr < 0 := by omega
    clear h0 hb1 hs0 hs1
   all_goals
    go_wp2_with fail
    refine (change_c _ _ x.clear x.sp x.sm _).mono ?_
    rintro e w1 ⟨er, rfl, hb1⟩
    have hz1 := hb1.size
    simp only [World.size_alloc] at hz1
    rw [← HS0.out]
    have hbx := (hb1.block wr.heap.size (by simp; omega)).trans ((heap_old_at (by simp)).trans (heap_new_at rfl))
    have hbs := (hb1.block (wr.heap.size + 1) (by simp)).trans (heap_new_at (by simp))
    have hB1 : Below w.heap.size w w1 := ((hB.alloc hB.size _).alloc (by simp; omega) _).trans (hb1.mono (by simp; omega))
    have hown1 := own_keep ((hown.out.alloc _).alloc _) hb1 rr
    obtain ⟨⟨p1, q1⟩, hc1⟩ : ∃ s : Snd, s = changeM s0 x.clear (x.sp, x.sm) := ⟨_, rfl⟩
    rw [← hc1]
    have HC1 := hI hc1; clear hc1
    have e3 := cell_at_heap (j := 4) hbx rfl
    have e4 := cell_at_heap (j := 5) hbx rfl
    have e5 := cell_at_heap (j := 0) hbs rfl
    have e6 := cell_at_heap (j := 1) hbs rfl
    have f5 := frozen_of_row w1 (wr.heap.size + 1) 0 _ _ hbs
    have f6 := frozen_of_row w1 (wr.heap.size + 1) 1 _ _ hbs
    have HBX := hI hbx; clear hbx
    have HBS := hI hbs; clear hbs
    have HOWN1 := hI hown1; clear hown1 hb1
    clear g0 g1 g2 g3 g4 g5
   all_goals
    by_cases ht : x.take = 0
    case' neg =>
     obtain ⟨ho1, ho2⟩ := HB2.out ht
     have ht1 : (x.take != 0) = true := by simpa using ht
     obtain ⟨g, hg⟩ : ∃ g : Nat, g = x.of_.toNat := ⟨_, rfl⟩
     have hgx : x.of_ = (g : Int) := by omega
     have HG := hI hg; clear hg
     rw [hgx] at e4 ho2
     obtain ⟨bo, oo, p2, q2, hA2, hbol, hwx2, hv0, hv1⟩ := HW.out.at_ (k := g) (by omega)
     first | subst hA2 | (obtain ⟨rfl, rfl⟩ : bo = bw ∧ oo = ow := by simpa using hA2.symm)
     have HWX2 := hI hwx2; clear hwx2 hgx ho1
     have v0 := (hB1.cell (p := ⟨bo, oo + g * 2, none⟩) hbol).trans hv0
     have v1 := (hB1.cell (p := ⟨bo, oo + g * 2 + 1, none⟩) hbol).trans hv1
     clear hv0 hv1
     have hgl : (g : Int) < (l.ifs.length : Int) := by omega
     have hgn : ((g : Int)).toNat = g := by omega
     go_wp2
     have hBs1 := hB1.size
     have y0 : ((w1.setCell ⟨wr.heap.size + 1, 0, none⟩ (.int .u32 p1)).setCell ⟨wr.heap.size + 1, 1, none⟩ (.int .u32 q1)).heap[wr.heap.size + 1]? = some (.cells #[.int .u32 p1, .int .u32 q1] 49 (0, 0)) := by
      have h := heap_setCell_same (o := 1) (u := .int .u32 q1) (heap_setCell_same (o := 0) (u := .int .u32 p1) HBS.out)
      exact h
     have hown2 := ownsRow_setCell_other (ownsRow_setCell_other HOWN1.out (a := ⟨wr.heap.size + 1, 0, none⟩) (fun e => by have h : wr.heap.size + 1 < wr.heap.size := (hown.out.lt _ e).2; omega) (.int .u32 p1)) (a := ⟨wr.heap.size + 1, 1, none⟩) (fun e => by have h : wr.heap.size + 1 < wr.heap.size := (hown.out.lt _ e).2; omega) (.int .u32 q1)
     have hB2 : Below w.heap.size w ((w1.setCell ⟨wr.heap.size + 1, 0, none⟩ (.int .u32 p1)).setCell ⟨wr.heap.size + 1, 1, none⟩ (.int .u32 q1)) := (hB1.setCell (p := ⟨wr.heap.size + 1, 0, none⟩) (by simp; omega) _).setCell (p := ⟨wr.heap.size + 1, 1, none⟩) (by simp; omega) _
     have y1 : ((w1.setCell ⟨wr.heap.size + 1, 0, none⟩ (.int .u32 p1)).setCell ⟨wr.heap.size + 1, 1, none⟩ (.int .u32 q1)).heap[wr.heap.size]? = w1.heap[wr.heap.size]? := (Below.heap_setCell _ _ _ _ (by simp)).trans (Below.heap_setCell _ _ _ _ (by simp))
     have z3 := (World.cell?_of_block (a := ⟨wr.heap.size, 4, none⟩) y1).trans e3
     have z4 := (World.cell?_of_block (a := ⟨wr.heap.size, 5, none⟩) y1).trans e4
     have z0 : ((w1.setCell ⟨wr.heap.size + 1, 0, none⟩ (.int .u32 p1)).setCell ⟨wr.heap.size + 1, 1, none⟩ (.int .u32 q1)).cell? ⟨bo, oo + g * 2, none⟩ = some (.int .u32 p2) := by rw [cell_set_block (by omega), cell_set_block (by omega)]; exact v0
     have z1 : ((w1.setCell ⟨wr.heap.size + 1, 0, none⟩ (.int .u32 p1)).setCell ⟨wr.heap.size + 1, 1, none⟩ (.int .u32 q1)).cell? ⟨bo, oo + g * 2 + 1, none⟩ = some (.int .u32 q2) := by rw [cell_set_block (by omega), cell_set_block (by omega)]; exact v1
     have hUs : ((w1.setCell ⟨wr.heap.size + 1, 0, none⟩ (.int .u32 p1)).setCell ⟨wr.heap.size + 1, 1, none⟩ (.int .u32 q1)).heap.size = w1.heap.size := by simp
     generalize ((w1.setCell ⟨wr.heap.size + 1, 0, none⟩ (.int .u32 p1)).setCell ⟨wr.heap.size + 1, 1, none⟩ (.int .u32 q1)) = U at *
     have z5 := cell_at_heap (j := 0) y0 rfl
     have z6 := cell_at_heap (j := 1) y0 rfl
     have HY0 := hI y0; clear y0
     have HUS := hI hUs; clear hUs
     have HOWN2 := hI hown2; clear hown2
     have HB2 := hI hB2; clear hB2
     clear y1 e3 e4 e5 e6 f5 f6 v0 v1
     refine plain_regionU 8 (fun W' => W'.cell? ⟨bo, oo + g * 2, none⟩ = some (.int .u32 p2) ∧ W'.cell? ⟨bo, oo + g * 2 + 1, none⟩ = some (.int .u32 q2) ∧ W'.cell? ⟨wr.heap.size, 4, none⟩ = some (.int .u32 x.take) ∧ W'.cell? ⟨wr.heap.size, 5, none⟩ = some (.int .i64 g) ∧
      W'.cell? ⟨wr.heap.size + 1, 0, none⟩ = some (.int .u32 p1) ∧ W'.cell? ⟨wr.heap.size + 1, 1, none⟩ = some (.int .u32 q1)) (by kernel_rfl) ⟨z0, z1, z3, z4, z5, z6⟩ (fun hHeld => ?_)
     (refine' anyU_take (i := 0) 8 (v := _) rfl (by kernel_rfl) (by kernel_rfl) (by kernel_rfl) (by kernel_rfl) (fun _ _ _ h => h) (Or.inl ⟨by rfl, fun w' hSw => by (try dsimp only at hSw); go_split_ands; go_simp; (try with_reducible rfl)⟩) (by assumption) ?_; (try simp only [Act.put, nY, nX])); (refine' anyU_take (i := 1) 4 (v := _) rfl (by kernel_rfl) (by kernel_rfl) (by kernel_rfl) (by kernel_rfl) (fun _ _ _ h => h) (Or.inl ⟨by rfl, fun w' hSw => by (try dsimp only at hSw); go_split_ands; go_simp; (try with_reducible rfl)⟩) (by assumption) ?_; (try simp only [Act.put, nY, nX])); (refine' anyU_take (i := 2) 3 (v := _) rfl (by kernel_rfl) (by kernel_rfl) (by kernel_rfl) (by kernel_rfl) (fun _ _ _ h => h) (Or.inl ⟨by rfl, fun w' hSw => by (try dsimp only at hSw); go_split_ands; go_simp; (try with_reducible rfl)⟩) (by assumption) ?_; (try simp only [Act.put, nY, nX])); (refine' anyU_take (i := 3) 4 (v := _) rfl (by kernel_rfl) (by kernel_rfl) (by kernel_rfl) (by kernel_rfl) (fun _ _ _ h => h) (Or.inl ⟨by rfl, fun w' hSw => by (try dsimp only at hSw); go_split_ands; go_simp; (try with_reducible rfl)⟩) (by assumption) ?_; (try simp only [Act.put, nY, nX])); (refine' anyU_take (i := 4) 5 (v := _) rfl (by kernel_rfl) (by kernel_rfl) (by kernel_rfl) (by kernel_rfl) (fun _ _ _ h => h) (Or.inl ⟨by rfl, fun w' hSw => by (try dsimp only at hSw); go_split_ands; go_simp; (try with_reducible rfl)⟩) (by assumption) ?_; (try simp only [Act.put, nY, nX])); (refine' anyU_take (i := 5) 8 (v := _) rfl (by kernel_rfl) (by kernel_rfl) (by kernel_rfl) (by kernel_rfl) (fun _ _ _ h => h) (Or.inl ⟨by rfl, fun w' hSw => by (try dsimp only at hSw); go_split_ands; go_simp; (try with_reducible rfl)⟩) (by assumption) ?_; (try simp only [Act.put, nY, nX])); (refine' anyU_take (i := 6) 7 (v := _) rfl (by kernel_rfl) (by kernel_rfl) (by kernel_rfl) (by kernel_rfl) (fun _ _ _ h => h) (Or.inl ⟨by rfl, fun w' hSw => by (try dsimp only at hSw); go_split_ands; go_simp; (try with_reducible rfl)⟩) (by assumption) ?_; (try simp only [Act.put, nY, nX])); (refine' anyU_take (i := 7) 8 (v := _) rfl (by kernel_rfl) (by kernel_rfl) (by kernel_rfl) (by kernel_rfl) (fun _ _ _ h => h) (Or.inl ⟨by rfl, fun w' hSw => by (try dsimp only at hSw); go_split_ands; go_simp; (try with_reducible rfl)⟩) (by assumption) ?_; (try simp only [Act.put, nY, nX]))
     (refine anyU_step (i := 8) (by kernel_rfl) rfl (fun K' hK' => ?_); simp only [nY]; go_simp)
     refine (take_c p1 q1 p2 q2 x.take _).mono ?_
     rintro e w3 ⟨er2, rfl, hb3⟩
     have hz3 := hb3.size
     have hUd : U.drew.heap.size = U.heap.size := rfl
     obtain ⟨⟨p3, q3⟩, hc3⟩ : ∃ s : Snd, s = takeM (p1, q1) (p2, q2) x.take := ⟨_, rfl⟩
     rw [← hc3]
     have hps : putS cut x = (p3, q3) := by
      unfold putS
      have e1 := HFR.out
      have e2 : (if 0 ≤ x.frm then cut.getD x.frm.toNat (0, 0) else (0, 0)) = s0 := HSO.out
      simp only [e2, ← HC1.out]
      rw [if_pos ht, hc3, ← HG.out, getD_of HWX2.out]
     have HPS := hI hps; clear hps hc3
     have hB3 : Below w.heap.size w w3 := HB2.out.drew.trans (hb3.mono HB2.out.size)
     have hown3 := own_keep (w := U.drew) HOWN2.out hb3 rr
     have y3 : w3.heap[wr.heap.size + 1]? = some (.cells #[.int .u32 p1, .int .u32 q1] 49 (0, 0)) := (hb3.block _ (lt_of_block HY0.out)).trans HY0.out
     refine hK' _ _ ⟨.inl (by kernel_rfl), fun _ => anyU_of_T _ _ _ _ (by kernel_rfl) ?_⟩
     clear hK' K' hb3 hUd hHeld
     have f5 := frozen_of_row w3 (wr.heap.size + 1) 0 _ _ y3
     have f6 := frozen_of_row w3 (wr.heap.size + 1) 1 _ _ y3
     have c5 := cell_at_heap (j := 0) y3 rfl
     have c6 := cell_at_heap (j := 1) y3 rfl
     have Y3 := hI y3; clear y3
     have HB3 := hI hB3; clear hB3
     have HOWN3 := hI hown3; clear hown3
     (try simp only [Act.put, nY, nX])
     (refine' anyT_takeF (i := 9) (v := _) rfl (by kernel_rfl) (by kernel_rfl) (by kernel_rfl) (fun _ _ _ h => h) (Or.inl ⟨by rfl, fun w' hSw => by go_simp; (try with_reducible rfl)⟩) ?_; (try simp only [Act.put, nY, nX])); (refine' anyT_takeF (i := 10) (v := _) rfl (by kernel_rfl) (by kernel_rfl) (by kernel_rfl) (fun _ _ _ h => h) (Or.inl ⟨by rfl, fun w' hSw => by go_simp; (try with_reducible rfl)⟩) ?_; (try simp only [Act.put, nY, nX])); (refine' anyT_takeF (i := 11) (v := _) rfl (by kernel_rfl) (by kernel_rfl) (by kernel_rfl) (fun _ _ _ h => h) (Or.inl ⟨by rfl, fun w' hSw => by go_simp; (try with_reducible rfl)⟩) ?_; (try simp only [Act.put, nY, nX]))
     (refine anyT_sp 12 rfl (fun K' hK' => ?_); simp only [nY]; go_simp)
     refine hK' _ _ ⟨.inl (by kernel_rfl), fun _ => anyT_done (by kernel_rfl) ?_ _⟩
     clear hK' K'
     have t0 : ((w3.setCell ⟨wr.heap.size + 1, 0, none⟩ (.int .u32 p3)).setCell ⟨wr.heap.size + 1, 1, none⟩ (.int .u32 q3)).heap[wr.heap.size + 1]? = some (.cells #[.int .u32 p3, .int .u32 q3] 49 (0, 0)) := by
      have h := heap_setCell_same (o := 1) (u := .int .u32 q3) (heap_setCell_same (o := 0) (u := .int .u32 p3) Y3.out)
      exact h
     have town := ownsRow_setCell_other (ownsRow_setCell_other HOWN3.out (a := ⟨wr.heap.size + 1, 0, none⟩) (fun e => by have h : wr.heap.size + 1 < wr.heap.size := (hown.out.lt _ e).2; omega) (.int .u32 p3)) (a := ⟨wr.heap.size + 1, 1, none⟩) (fun e => by have h : wr.heap.size + 1 < wr.heap.size := (hown.out.lt _ e).2; omega) (.int .u32 q3)
     have tB : Below w.heap.size w ((w3.setCell ⟨wr.heap.size + 1, 0, none⟩ (.int .u32 p3)).setCell ⟨wr.heap.size + 1, 1, none⟩ (.int .u32 q3)) := (HB3.out.setCell (p := ⟨wr.heap.size + 1, 0, none⟩) (by simp; omega) _).setCell (p := ⟨wr.heap.size + 1, 1, none⟩) (by simp; omega) _
     generalize ((w3.setCell ⟨wr.heap.size + 1, 0, none⟩ (.int .u32 p3)).setCell ⟨wr.heap.size + 1, 1, none⟩ (.int .u32 q3)) = w4 at *
     have t1 := cell_at_heap (j := 0) t0 rfl
     have t2 := cell_at_heap (j := 1) t0 rfl
     have HT0 := hI t0; clear t0
     have TOWN := hI town; clear town
     have TB := hI tB; clear tB
     have htl : Wb.heap.size ≤ w4.heap.size := by have := lt_of_block HT0.out; omega
     have htl2 : w.heap.size ≤ w4.heap.size := TB.out.size
     go_wp2_with (at_builtin; refine append_snd rfl (.tmp 48) (.tmp 50) rfl Wb.heap.size u5 j ((l.outs.take j).map (putS cut)) rfl (TOWN.out.alloc _) (some ⟨w4.heap.size, 0, none⟩) 1 1 [(p3, q3)] rfl (word_one w4 p3 q3 49) (by omega) (by simp; omega) ?_; intro v' w9 hown9 hg9 _)
     have hr0 : ∀ k, u5.ownBlock = some k → w.heap.size ≤ k := fun k hk => by have := (hown.out.lt _ hk).1; omega
     have hB9 : Below w.heap.size w w9 := (TB.out.alloc htl2 _).grown hg9 (by simp; omega) hr0
     have HOWN9 := hI hown9
     have HB9 := hI hB9
     clear hown9 hg9 hB9 hr0
     go_roundw
     case rel =>
      refine ⟨j + 1, by go_num, by omega, ?_, HB9.out⟩
      show w9.ownsRow _ _ _ _ _ _
      rw [take_snoc' l.outs j x HX.out, List.map_append, List.map_cons, List.map_nil, HPS.out]
      have h9 := HOWN9.out
      try rw [← List.map_take] at h9
      exact h9
     case measure => simp [intOf]; omega
    case' pos =>
     have ht1 : (x.take != 0) = false := by rw [ht]; rfl
     have hps : putS cut x = (p1, q1) := by
      unfold putS
      have e2 : (if 0 ≤ x.frm then cut.getD x.frm.toNat (0, 0) else (0, 0)) = s0 := HSO.out
      simp only [e2, ← HC1.out]
      rw [if_neg (by simpa using ht)]
     have HPS := hI hps; clear hps
     have hBs1 := hB1.size
     have town := ownsRow_setCell_other (ownsRow_setCell_other HOWN1.out (a := ⟨wr.heap.size + 1, 0, none⟩) (fun e => by have h : wr.heap.size + 1 < wr.heap.size := (hown.out.lt _ e).2; omega) (.int .u32 p1)) (a := ⟨wr.heap.size + 1, 1, none⟩) (fun e => by have h : wr.heap.size + 1 < wr.heap.size := (hown.out.lt _ e).2; omega) (.int .u32 q1)
     have tB : Below w.heap.size w ((w1.setCell ⟨wr.heap.size + 1, 0, none⟩ (.int .u32 p1)).setCell ⟨wr.heap.size + 1, 1, none⟩ (.int .u32 q1)) := (hB1.setCell (p := ⟨wr.heap.size + 1, 0, none⟩) (by simp; omega) _).setCell (p := ⟨wr.heap.size + 1, 1, none⟩) (by simp; omega) _
     have TOWN := hI town; clear town
     have TB := hI tB; clear tB
     have htl : Wb.heap.size ≤ w1.heap.size := by omega
     have tone := word_one ((w1.setCell ⟨wr.heap.size + 1, 0, none⟩ (.int .u32 p1)).setCell ⟨wr.heap.size + 1, 1, none⟩ (.int .u32 q1)) p1 q1 49
     rw [show ((w1.setCell ⟨wr.heap.size + 1, 0, none⟩ (.int .u32 p1)).setCell ⟨wr.heap.size + 1, 1, none⟩ (.int .u32 q1)).heap.size = w1.heap.size by simp] at tone
     have TONE := hI tone; clear tone
     go_wp2_with (at_builtin; refine append_snd rfl (.tmp 48) (.tmp 50) rfl Wb.heap.size u5 j ((l.outs.take j).map (putS cut)) rfl (TOWN.out.alloc _) (some ⟨w1.heap.size, 0, none⟩) 1 1 [(p1, q1)] rfl TONE.out (by omega) (by simp; omega) ?_; intro v' w9 hown9 hg9 _)
     have hr0 : ∀ k, u5.ownBlock = some k → w.heap.size ≤ k := fun k hk => by have := (hown.out.lt _ hk).1; omega
     have hB9 : Below w.heap.size w w9 := (TB.out.alloc (by simp; omega) _).grown hg9 (by simp; omega) hr0
     have HOWN9 := hI hown9
     have HB9 := hI hB9
     clear hown9 hg9 hB9 hr0
     go_roundw
     case rel =>
      refine ⟨j + 1, by go_num, by omega, ?_, HB9.out⟩
      show w9.ownsRow _ _ _ _ _ _
      rw [take_snoc' l.outs j x HX.out, List.map_append, List.map_cons, List.map_nil, HPS.out]
      have h9 := HOWN9.out
      try rw [← List.map_take] at h9
      exact h9
     case measure => simp [intOf]; omega
  ·obtain rfl : j = l.outs.length := by omega
   go_wp2
   go_ret
   have h2 : l.outs.take l.outs.length = l.outs := List.take_of_length_le rr
   have h3 := hown.out
   rw [h2] at h3
   exact RetWord.of_own rfl h3 hB hBb.size
def replaceM (l : LawD) (ws : List Snd) (at_ : Nat) : List Snd := ws.take at_ ++ putM l ((ws.drop at_).take l.ifs.length) ++ ws.drop (at_ + l.ifs.length)
theorem replace_c (l : LawD) (a : LawA) (A : Option Addr) (n c : Nat) (ws : List Snd) (at_ : Nat) (w : World) (hl : LawAt w l a) (hw : IsWord w A n c ws) (hfit : ∀ x ∈ l.outs, fitsM x l.ifs.length = true) (hm : l.outs.length ≤ 64)
  (hat : at_ + l.ifs.length ≤ n) (hn : n ≤ 4000) :
  Calls Tryz.prog 209 #[lawV l a, .slice A n c, .int .i64 at_] w (RetWord w (replaceM l ws at_)) := by
 have hnc : n ≤ c := hw.2.1
 have hc63 : c ≤ 9223372036854775807 := by have := hw.2.2.1; unfold maxLen at this; omega
 have HL := hI hl; clear hl
 have HW := hI hw; clear hw
 obtain ⟨Wb, hWb, hrb, hlb, hBb, hzb⟩ := law_box w l a
 obtain ⟨d0, d1, d2, d3⟩ := law_reads hrb
 go_enter Tryz.func209, Tryz.ntmps209
 go_wp2
 clear hWb d0 d1 d2 d3
 have hB1 := hI hBb
 have hi1 : (0 : Int) ≤ (at_ : Int) := by omega
 have hi2 : (at_ : Int) ≤ (c : Int) := by omega
 have hi3 : (at_ : Int) ≤ (at_ : Int) + (l.ifs.length : Int) := by omega
 have hi4 : (at_ : Int) + (l.ifs.length : Int) ≤ (c : Int) := by omega
 have hi5 : (at_ : Int) + (l.ifs.length : Int) ≤ (n : Int) := by omega
 have hi6 : ((at_ : Int) + (l.ifs.length : Int)).toNat = at_ + l.ifs.length := by omega
 have hi7 : (0 : Int) ≤ (at_ : Int) + (l.ifs.length : Int) := by omega
 refine plain_region (fun W' => W'.heap[w.heap.size]? = some (.cells (lawCs l a) 55 (0, 0))) (by kernel_rfl) hrb (fun hHeld => ?_)
 (refine' anyT_tk 0 rfl ?_; (try simp only [Act.put, nY, nX])); (refine' anyT_tk 1 rfl ?_; (try simp only [Act.put, nY, nX])); (refine' anyT_tk 2 rfl ?_; (try simp only [Act.put, nY, nX]))
 (refine' anyT_take (i := 3) (v := lawV l a) rfl (by kernel_rfl) (by kernel_rfl) (by kernel_rfl) (by kernel_rfl) (fun _ _ _ h => h) (yields_law (by rfl) (.tmp 3) rfl (w.heap.size) l a (by rfl) (fun w' hSw => by (try dsimp only at hSw); first | exact hSw | exact hSw.1)) (by assumption) ?_; (try simp only [Act.put, nY, nX]))
 (refine' anyT_tk 4 rfl ?_; (try simp only [Act.put, nY, nX])); (refine' anyT_tk 5 rfl ?_; (try simp only [Act.put, nY, nX])); (refine' anyT_tk 6 rfl ?_; (try simp only [Act.put, nY, nX])); (refine' anyT_tk 7 rfl ?_; (try simp only [Act.put, nY, nX])); (refine' anyT_tk 9 rfl ?_; (try simp only [Act.put, nY, nX])); (refine' anyT_tk 10 rfl ?_; (try simp only [Act.put, nY, nX])); (refine' anyT_tk 11 rfl ?_; (try simp only [Act.put, nY, nX]))
 (refine anyT_sp 8 rfl (fun K' hK' => ?_); simp only [nY]; go_simp)
 have hcut : IsWord Wb.drew (if c = at_ then A else A.map (·.add (at_ * 2))) l.ifs.length (c - at_) ((ws.drop at_).take l.ifs.length) := IsWord.take ((HW.out.below (B := w.heap.size) hB1.out.drew rr).drop (by omega)) (by omega)
 refine (put_c l a _ _ _ _ (HL.out.below (B := w.heap.size) hB1.out.drew rr) hcut hfit hm).mono ?_
 rintro e w2 ⟨A2, n2, c2, rfl, hw2, hb2, _⟩
 have hB2 : Below w.heap.size w w2 := hB1.out.drew.trans (hb2.mono hB1.out.size)
 have hr2 := (hb2.block w.heap.size hlb).trans hHeld
 have HB2 := hI hB2; clear hB2 hb2
 have HW2 := hI hw2; clear hw2
 refine hK' _ _ ⟨.inr hr2, fun _ => ?_⟩
 clear hK' K'
 (try simp only [Act.put, nY, nX])
 (refine anyT_sp 12 rfl (fun K' hK' => ?_); simp only [nY]; go_simp)
 have hr3 := (heap_old_at (o := .cells #[.slice A at_ c, .slice A2 n2 c2, .slice (if c = at_ + l.ifs.length then A else A.map (·.add ((at_ + l.ifs.length) * 2))) (n - (at_ + l.ifs.length)) (c - (at_ + l.ifs.length))] 28) (lt_of_block hr2)).trans hr2
 refine hK' _ _ ⟨.inr hr3, fun _ => ?_⟩
 clear hK' K'
 (try simp only [Act.put, nY, nX])
 (refine anyT_sp 13 rfl (fun K' hK' => ?_); simp only [nY]; go_simp)
 have hlen2 : (putM l ((ws.drop at_).take l.ifs.length)).length = l.outs.length := by simp [putM]
 refine (concatSnd_c (some ⟨w2.heap.size, 0, none⟩) 3 3 [(A, at_, c, ws.take at_), (A2, n2, c2, putM l ((ws.drop at_).take l.ifs.length)), (if c = at_ + l.ifs.length then A else A.map (·.add ((at_ + l.ifs.length) * 2)), n - (at_ + l.ifs.length), c - (at_ + l.ifs.length), ws.drop (at_ + l.ifs.length))] _ ?hc ?hp ?hb).mono ?_
 case hc => exact ⟨rfl, rr, by unfold maxLen; omega, (fun h => by cases h), fun _ => ⟨w2.heap.size, 0, rfl, by simp, fun j v hv => by rw [Nat.zero_add]; exact cell_new_at (by simpa [Part.val] using hv)⟩⟩
 case hp =>
  intro p hp
  have hB3 : Below w.heap.size w (w2.alloc (.cells #[.slice A at_ c, .slice A2 n2 c2, .slice (if c = at_ + l.ifs.length then A else A.map (·.add ((at_ + l.ifs.length) * 2))) (n - (at_ + l.ifs.length)) (c - (at_ + l.ifs.length))] 28)) := HB2.out.alloc HB2.out.size _
  simp only [List.mem_cons, List.not_mem_nil, or_false] at hp
  rcases hp with rfl | rfl | rfl
  ·exact IsWord.take (HW.out.below hB3 rr) (show at_ ≤ n by omega)
  ·exact HW2.out.below ((Below.refl w2.heap.size w2).alloc rr _) rr
  ·exact IsWord.drop (HW.out.below hB3 rr) hat
 case hb =>
  have hwl := HW.out.len
  simp only [catW, List.flatMap_cons, List.flatMap_nil, List.append_nil, Part.word, List.length_append, List.length_take, List.length_drop, hlen2]
  omega
 rintro e w4 ⟨A4, n4, c4, rfl, hw4, hb4, hfr4⟩
 have hB4 : Below w.heap.size w w4 := (HB2.out.alloc HB2.out.size _).trans (hb4.mono (by have := HB2.out.size; simp; omega))
 have hr4 := (hb4.block w.heap.size (lt_of_block hr3)).trans hr3
 refine hK' _ _ ⟨.inr hr4, fun _ => ?_⟩
 clear hK' K'
 (try simp only [Act.put, nY, nX])
 (refine anyT_sp 14 rfl (fun K' hK' => ?_); simp only [nY]; go_simp)
 refine hK' _ _ ⟨.inl (by kernel_rfl), fun _ => anyT_done (by kernel_rfl) ?_ _⟩
 clear hK' K'
 have HW4 := hI hw4; clear hw4
 generalize (if c = at_ then A else A.map (·.add (at_ * 2))) = A5
 generalize (if c = at_ + l.ifs.length then A else A.map (·.add ((at_ + l.ifs.length) * 2))) = A6
 go_wp2
 go_ret
 refine ⟨A4, n4, c4, rfl, ?_, hB4, fun ad had => ?_⟩
 rotate_left
 ·have h1 := hfr4 ad had
  have h2 := HB2.out.size
  simp only [World.size_alloc] at h1
  omega
 have h := HW4.out
 simp only [catW, List.flatMap_cons, List.flatMap_nil, List.append_nil, Part.word] at h
 unfold replaceM
 rw [List.append_assoc]
 exact h
end Go.Proofs.YtaglfmlgbcmakaaGreatDoor

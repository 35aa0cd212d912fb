/-
  ablautref08: Name, fits.
  ablautref08: Check, check.
  ablautref08: put.
  ablautref08: replace.
  ablautref08: Hit.
-/
import Derived.Laws.OwnMore
import Derived.Test.YtcpcojgmmpnkoaaGreatDoorG25
set_option linter.all false
set_option maxRecDepth 100000
set_option maxHeartbeats 4000000
namespace Go.Proofs.YtcpcojgmmpnkoaaGreatDoor
open Go.RowKit Go.Shelf
theorem all_drop {α : Type} (p : α → Bool) : ∀ l : List α, (l.dropWhile p).all p = true → l.all p = true
 | [], _ => rfl
 | x :: t, h => by
  rw [List.dropWhile_cons] at h
  cases hp : p x with
  | true =>
   rw [hp, if_pos rfl] at h
   rw [List.all_cons, hp, all_drop p t h]; rfl
  | false =>
   rw [hp, if_neg (by decide), List.all_cons, hp] at h
   exact absurd h (by simp)
theorem drop_empty {α : Type} (p : α → Bool) : ∀ l : List α, (l.dropWhile p).isEmpty = l.all p
 | [] => rfl
 | x :: t => by
  rw [List.dropWhile_cons, List.all_cons]
  cases hp : p x with
  | true => rw [if_pos rfl, Bool.true_and]; exact drop_empty p t
  | false => rw [if_neg (by decide)]; rfl
theorem trim_all (l cs : List UInt8) : (Lib.trimS l cs).isEmpty = l.all (cs.contains ·) := by
 unfold Lib.trimS Lib.trimLeftS Lib.trimRightS
 rw [drop_empty, List.all_reverse, Bool.eq_iff_iff]
 constructor
 ·intro h
  have := all_drop (cs.contains ·) l.reverse h
  rwa [List.all_reverse] at this
 ·intro h
  have h1 : (l.reverse.dropWhile (cs.contains ·)).isEmpty = true := by rw [drop_empty, List.all_reverse]; exact h
  rw [List.isEmpty_iff.1 h1]; rfl
def okN (n : Nat) : Bool := (decide (97 ≤ n) && decide (n ≤ 122)) || (decide (65 ≤ n) && decide (n ≤ 90)) || (decide (48 ≤ n) && decide (n ≤ 57)) || n == 45
theorem letters_ok : ∀ n : Nat, n < 256 → letters.contains (UInt8.ofNat n) = okN n := by decide +kernel
theorem letter_ok (c : UInt8) : letters.contains c = okN c.toNat := by
 rw [← letters_ok c.toNat c.toNat_lt]; simp
theorem named_all (s : ByteArray) : namedM s = (decide (1 ≤ s.size) && decide (s.size ≤ 24) && s.data.toList.all fun c => okN c.toNat) := by
 unfold namedM
 have e : s.data.toList.all (fun c => letters.contains c) = s.data.toList.all (fun c => okN c.toNat) := by
  congr 1; funext c; exact letter_ok c
 rw [trim_all, e, Lib.toList_data]
 congr 2
 have hs : s.data.toList.length = s.size := by simp
 cases h : s.data.toList with
 | nil => rw [h] at hs; simp only [List.length_nil] at hs; rw [← hs]; rfl
 | cons x y => rw [h] at hs; simp only [List.length_cons] at hs; rw [decide_eq_true (by omega)]; rfl
theorem take_byte (s : ByteArray) (k : Nat) (h : k < s.size) : s.data.toList.take (k + 1) = s.data.toList.take k ++ [s[k]] := by
 rw [List.take_succ_eq_append_getElem (by simpa using h)]; rfl
theorem r8Name_c (s : ByteArray) (w : World) (hs : s.size ≤ 9223372036854775807) :
  Calls Tryz.prog 173 #[.string s] w fun e w' => e = .returned (.bool (namedM s)) ∧ w' = w := by
 have HN := hI (named_all s)
 go_enter Tryz.func173, Tryz.ntmps173
 go_wp2
 go_loop [3] (fun i => ∃ k : Nat, k ≤ s.size ∧ i = .int .i64 k ∧ Hid ((s.data.toList.take k).all (fun c => okN c.toNat) = true)) (fun i => s.size - (intOf i).toNat)
 case atStart => exact ⟨0, Nat.zero_le _, rfl, by simp [Hid]⟩
 case round =>
  obtain ⟨k, hk, rfl, hall⟩ := hrel
  by_cases hlt : k < s.size
  ·have HT := hI (take_byte s k hlt)
   have hlt' : (k : Int) < (s.size : Int) := by omega
   have hbad : Hid (okN s[k].toNat = false → namedM s = false) := by
    intro h
    rw [HN.out]
    have h1 : s.data.toList.all (fun c => okN c.toNat) = false := by
     rw [← List.take_append_drop (k + 1) s.data.toList, HT.out]; simp [h]
    rw [h1, Bool.and_false]
   have hgood : Hid (okN s[k].toNat = true → (s.data.toList.take (k + 1)).all (fun c => okN c.toNat) = true) := by
    intro h
    rw [HT.out, List.all_append, hall.out]; simp [h]
   go_wp2
   all_goals (simp only [Bool.and_eq_true, Bool.not_eq_true', Bool.not_eq_false', decide_eq_false_iff_not, decide_eq_true_eq, beq_eq_false_iff_ne, beq_iff_eq, ne_eq] at *)
   all_goals first
    | (refine ⟨⟨k + 1, by omega, by go_num, hgood.out ?_⟩, by simp [intOf]; omega⟩
       unfold okN
       simp only [Bool.or_eq_true, Bool.and_eq_true, decide_eq_true_eq, beq_iff_eq]
       omega)
    | (go_ret
       refine ⟨?_, rfl⟩
       have hf : okN s[k].toNat = false := by
        unfold okN
        simp only [Bool.or_eq_false_iff, Bool.and_eq_false_iff, decide_eq_false_iff_not, beq_eq_false_iff_ne]
        omega
       rw [hbad.out hf]; rfl)
  ·obtain rfl : k = s.size := by omega
   have hf : namedM s = (decide (1 ≤ s.size) && decide (s.size ≤ 24)) := by
    rw [HN.out]
    have := hall.out
    rw [List.take_of_length_le (by simp)] at this
    rw [this, Bool.and_true]
   have HF := hI hf; clear hf
   by_cases h1 : 1 ≤ s.size
   ·have h1' : decide ((1 : Int) ≤ (s.size : Int)) = true := decide_eq_true (by omega)
    go_wp2
    go_ret
    refine ⟨?_, rfl⟩
    show Ending.returned (.bool (decide ((s.size : Int) ≤ 24))) = _
    rw [HF.out, decide_eq_true h1, Bool.true_and]
    congr 2; exact decide_eq_decide.2 (by omega)
   ·have h1' : decide ((1 : Int) ≤ (s.size : Int)) = false := decide_eq_false (by omega)
    go_wp2
    go_ret
    refine ⟨?_, rfl⟩
    rw [HF.out, decide_eq_false h1]; rfl
def fitsR (x : OutD) (k : Int) : Bool :=
 if decide (x.frm < -1) || decide (k ≤ x.frm) || !fvalid x.sp x.sm || bits .andNot .u32 x.clear 16777215 != 0 || bits .andNot .u32 x.take 16777215 != 0 then false
 else if bits .and .u32 x.clear (bits .or .u32 x.sp x.sm) != 0 || bits .and .u32 x.take (bits .or .u32 x.sp x.sm) != 0 || bits .and .u32 x.take x.clear != 0 then false
 else if x.take == 0 then x.of_ == 0
 else decide (0 ≤ x.of_) && decide (x.of_ < k)
theorem zero_orNot (a b m : Int) : (bits .andNot .u32 (bits .or .u32 a b) m != 0) = (bits .andNot .u32 a m != 0 || bits .andNot .u32 b m != 0) := by
 have h : bits .andNot .u32 (bits .or .u32 a b) m = 0 ↔ bits .andNot .u32 a m = 0 ∧ bits .andNot .u32 b m = 0 := by
  rw [andNot_bv, andNot_bv, andNot_bv, or_bv, bv_nat, zero_iff, zero_iff, zero_iff]
  simp only [BitVec.getLsbD_and, BitVec.getLsbD_or, BitVec.getLsbD_not]
  constructor
  ·intro h
   exact ⟨fun i => by have := h i; revert this; cases (bv a).getLsbD i <;> simp, fun i => by have := h i; revert this; cases (bv b).getLsbD i <;> simp⟩
  ·rintro ⟨h1, h2⟩ i
   have h3 := h1 i; have h4 := h2 i
   revert h3 h4
   cases (bv a).getLsbD i <;> cases (bv b).getLsbD i <;> simp
 rw [Bool.eq_iff_iff, Bool.or_eq_true, bne_iff_ne, bne_iff_ne, bne_iff_ne]
 rw [ne_eq, h]; simp only [ne_eq]; exact Classical.not_and_iff_not_or_not
theorem zero_andOr (a m c : Int) : (bits .and .u32 a (bits .or .u32 m c) != 0) = (bits .and .u32 a m != 0 || bits .and .u32 a c != 0) := by
 have h : bits .and .u32 a (bits .or .u32 m c) = 0 ↔ bits .and .u32 a m = 0 ∧ bits .and .u32 a c = 0 := by
  rw [and_bv, and_bv, and_bv, or_bv, bv_nat, zero_iff, zero_iff, zero_iff]
  simp only [BitVec.getLsbD_and, BitVec.getLsbD_or]
  constructor
  ·intro h
   exact ⟨fun i => by have := h i; revert this; cases (bv a).getLsbD i <;> simp; exact fun h _ => h, fun i => by have := h i; revert this; cases (bv a).getLsbD i <;> simp⟩
  ·rintro ⟨h1, h2⟩ i
   have h3 := h1 i; have h4 := h2 i
   revert h3 h4
   cases (bv a).getLsbD i <;> simp
   intro h3 h4; exact ⟨h3, h4⟩
 rw [Bool.eq_iff_iff, Bool.or_eq_true, bne_iff_ne, bne_iff_ne, bne_iff_ne]
 rw [ne_eq, h]; simp only [ne_eq]; exact Classical.not_and_iff_not_or_not
theorem fitsR_eq (x : OutD) (k : Int) : fitsR x k = fitsM x k := by
 unfold fitsR fitsM
 rw [zero_orNot, zero_andOr x.take (bits .or .u32 x.sp x.sm) x.clear]
 cases decide (x.frm < -1) <;> cases decide (k ≤ x.frm) <;> cases fvalid x.sp x.sm <;> cases (bits .andNot .u32 x.clear 16777215 != 0) <;> cases (bits .andNot .u32 x.take 16777215 != 0) <;>
  cases (bits .and .u32 x.clear (bits .or .u32 x.sp x.sm) != 0) <;> cases (bits .and .u32 x.take (bits .or .u32 x.sp x.sm) != 0) <;> cases (bits .and .u32 x.take x.clear != 0) <;> rfl
theorem r8fits_c (x : OutD) (k : Int) (w : World) (hp : U32 x.sp) (hm : U32 x.sm) :
  Calls Tryz.prog 175 #[outV x, .int .i64 k] w fun e w' => e = .returned (.bool (fitsM x k)) ∧ Below w.heap.size w w' := by
 have HP := hI hp; clear hp
 have HM := hI hm; clear hm
 have HF := hI (fitsR_eq x k)
 go_enter Tryz.func175, Tryz.ntmps175
 go_wp2_with (go_at_call 123; refine (r1Valid_c _ _ _ HP.out HM.out).mono ?_; rintro e w1 ⟨rfl, hb1⟩; have hz1 := bsize hb1; (try simp only [World.size_alloc, World.size_drew, World.size_setCell] at hz1); have c0 := fun o => hb1.cell (p := ⟨w.heap.size, o, none⟩) sd; have f0 := fun o => hb1.frozen (p := ⟨w.heap.size, o, none⟩) sd; have hB1 : Below w.heap.size w w1 := bel; clear hb1)
 all_goals (go_ret; refine ⟨?_, by first | exact hB1 | exact bel⟩; rw [← HF.out]; simp [fitsR, *]; try (first | omega | (intro hv; rename_i h; simp [hv] at h; omega)))
end Go.Proofs.YtcpcojgmmpnkoaaGreatDoor
namespace Go.Proofs.YtcpcojgmmpnkoaaGreatDoor
open Go.RowKit Go.Shelf
attribute [local go_sem] Oper.semAt_some
def OutU (x : OutD) : Prop := U32 x.clear ∧ U32 x.sp ∧ U32 x.sm ∧ U32 x.take
def LawU (l : LawD) : Prop := NdU l.left.1 ∧ FoU l.left.2 ∧ NdU l.right.1 ∧ FoU l.right.2 ∧ WordU l.ifs ∧ ∀ x ∈ l.outs, OutU x
theorem r8Check_c (l : LawD) (a : LawA) (w : World) (hl : LawAt w l a) (hu : LawU l) :
  Calls Tryz.prog 149 #[lawV l a] w fun e w' => e = .returned (.int .i64 (lawE l)) ∧ Below w.heap.size w w' := by
 have hn63 := hl.2.2.2.2
 have HU := hI hu; clear hu
 have HL := hI hl; clear hl
 obtain ⟨Wb, hWb, hrb, hlb, hBb, hzb⟩ := law_box w l a
 obtain ⟨d0, d1, d2, d3⟩ := law_reads hrb
 go_enter Tryz.func149, Tryz.ntmps149
 go_wp2_with fail
 clear hWb d0 d1 d2 d3
 refine (r8Name_c l.name Wb hn63).mono ?_
 rintro e w1 ⟨rfl, hq⟩
 rw [hq]; clear hq w1
 obtain ⟨d0, d1, d2, d3⟩ := law_reads hrb
 have H01 := hI hrb; clear hrb
 cases hnm : namedM l.name with
 | false =>
  have hr : lawE l = 17 := by unfold lawE badLaw; rw [hnm]; rfl
  have HR := hI hr; clear hr
  go_wp2
  go_ret
  exact ⟨by rw [HR.out]; rfl, hBb⟩
 | true =>
  have HNM := hI hnm; clear hnm
  obtain ⟨_, p1, p2, p3, p4, p5, p6, p7, _, _, _, _, _, _, _, _, _, _⟩ := law_cells H01.out
  go_wp2_with fail
  clear p1 p2 p3 p4 p5 p6 p7
  refine (r6Check_c l.left.1 l.left.2 Wb a.Al l.left.2.len a.cl (HL.out.1.below hBb rr) HU.out.1 HU.out.2.1).mono ?_
  rintro e w2 ⟨rfl, hb⟩
  have h0n := (hb.block _ (by omega)).trans H01.out
  have hB2 := hBb.trans (hb.mono hBb.size)
  have hz2 := lt_of_block h0n
  clear hb d0 d1 d2 d3
  have H02 := hI h0n
  obtain ⟨d0, d1, d2, d3⟩ := law_reads h0n
  clear h0n
  by_cases hcl : checkM 40 [l.left] = 0
  case neg =>
   have hq1 : (checkM 40 [(l.left.fst, l.left.snd)] != 0) = true := by simpa using hcl
   have hr : lawE l = 17 := by unfold lawE badLaw; rw [show (checkM 40 [l.left] != 0) = true by simpa using hcl]; simp
   have HR := hI hr; clear hr hcl
   go_wp2
   go_ret
   exact ⟨by rw [HR.out]; rfl, hB2⟩
  have hq1 : (checkM 40 [(l.left.fst, l.left.snd)] != 0) = false := by simpa using hcl
  have HCL := hI hcl; clear hcl
  obtain ⟨_, _, _, _, _, _, _, _, p1, p2, p3, p4, p5, p6, p7, _, _, _⟩ := law_cells H02.out
  go_wp2_with fail
  clear hq1 p1 p2 p3 p4 p5 p6 p7
  refine (r6Check_c l.right.1 l.right.2 w2 a.Ar l.right.2.len a.cr (HL.out.2.1.below hB2 rr) HU.out.2.2.1 HU.out.2.2.2.1).mono ?_
  rintro e w3 ⟨rfl, hb⟩
  have h0n := (hb.block _ (by omega)).trans H02.out
  have hB3 := hB2.trans (hb.mono hB2.size)
  have hz3 := lt_of_block h0n
  clear hb d0 d1 d2 d3
  have H03 := hI h0n
  obtain ⟨d0, d1, d2, d3⟩ := law_reads h0n
  clear h0n
  by_cases hcr : checkM 40 [l.right] = 0
  case neg =>
   have hq1 : (checkM 40 [(l.right.fst, l.right.snd)] != 0) = true := by simpa using hcr
   have hr : lawE l = 17 := by unfold lawE badLaw; rw [show (checkM 40 [l.right] != 0) = true by simpa using hcr]; simp
   clear hcr
   have HR := hI hr; clear hr
   go_wp2
   go_ret
   exact ⟨by rw [HR.out]; rfl, hB3⟩
  have hq1 : (checkM 40 [(l.right.fst, l.right.snd)] != 0) = false := by simpa using hcr
  have HCR := hI hcr; clear hcr
  by_cases h4 : 4 < l.ifs.length
  case pos =>
   have hr : lawE l = 17 := by unfold lawE badLaw; simp [h4]
   have hk63 := HL.out.2.2.1.max
   have HR := hI hr; clear hr
   go_wp2
   go_ret
   exact ⟨by rw [HR.out]; rfl, hB3⟩
  by_cases h6 : 6 < l.outs.length
  case pos =>
   have hr : lawE l = 17 := by unfold lawE badLaw; simp [h6]
   have hm63 : l.outs.length ≤ 9223372036854775807 := by have h1 := HL.out.2.2.2.1.1.2.1; have h2 := HL.out.2.2.2.1.1.2.2.1; unfold maxLen at h2; omega
   have HR := hI hr; clear hr
   go_wp2
   go_ret
   exact ⟨by rw [HR.out]; rfl, hB3⟩
  by_cases h00 : l.ifs.length + l.outs.length = 0
  case pos =>
   have h001 : ((l.ifs.length : Int) + (l.outs.length : Int) == 0) = true := by simp; omega
   have hr : lawE l = 17 := by unfold lawE badLaw; simp [h00]
   clear h00
   have HR := hI hr; clear hr
   go_wp2
   go_ret
   exact ⟨by rw [HR.out]; rfl, hB3⟩
  have h001 : ((l.ifs.length : Int) + (l.outs.length : Int) == 0) = false := by simp; omega
  have H00 := hI h00; clear h00
  by_cases hm1 : l.mode < 1
  case pos =>
   have hr : lawE l = 17 := by unfold lawE badLaw; simp [hm1]
   have HR := hI hr; clear hr
   go_wp2
   go_ret
   exact ⟨by rw [HR.out]; rfl, hB3⟩
  by_cases hm3 : 3 < l.mode
  case pos =>
   have hr : lawE l = 17 := by unfold lawE badLaw; simp [hm3]
   have HR := hI hr; clear hr
   go_wp2
   go_ret
   exact ⟨by rw [HR.out]; rfl, hB3⟩
  have b4 : decide ((4 : Int) < (l.ifs.length : Int)) = false := by simp; omega
  have b6 : decide ((6 : Int) < (l.outs.length : Int)) = false := by simp; omega
  have b1 : decide (l.mode < 1) = false := by simpa using hm1
  have b3 : decide (3 < l.mode) = false := by simpa using hm3
  go_wp2_with fail
  clear d0 d1 d2 d3
  go_loopw [3] (fun i wr => ∃ k : Nat, k ≤ l.ifs.length ∧ i = .int .i64 k ∧ Hid ((l.ifs.take k).any (fun s => !fvalid s.1 s.2) = false) ∧ Below w.heap.size w wr ∧ Hid (wr.heap[w.heap.size]? = some (.cells (lawCs l a) 34 (0, 0)))) (fun i _ => l.ifs.length - (intOf i).toNat)
  case atStart => exact ⟨0, Nat.zero_le _, rfl, by simp [Hid], hB3, H03⟩
  case round =>
   obtain ⟨k, hk, rfl, hall, hB, hr0⟩ := hrel
   have hBs := hB.size
   have hL := lt_of_block hr0.out
   obtain ⟨d0, d1, d2, d3⟩ := law_reads hr0.out
   by_cases hlt : k < l.ifs.length
   ·obtain ⟨b, off, p, m, hA, hb, hxk, hc0, hc1⟩ := (HL.out.2.2.1.below hB rr).at_ hlt
    have hlt' : (k : Int) < (l.ifs.length : Int) := by omega
    have hmem := HU.out.2.2.2.2.1 (p, m) (List.mem_of_getElem? hxk)
    have HM := hI hmem; clear hmem
    have HS := hI (take_snoc' l.ifs k (p, m) hxk)
    have HXK := hI hxk; clear hxk
    rw [hA] at d1
    clear hA
    go_wp2_with fail
    refine (r1Valid_c p m wr HM.out.1 HM.out.2).mono ?_
    rintro e w5 ⟨rfl, hb5⟩
    have hB5 := hB.trans (hb5.mono hBs)
    have H05 : Hid (w5.heap[w.heap.size]? = some (.cells (lawCs l a) 34 (0, 0))) := (hb5.block _ hL).trans hr0.out
    clear hb5 d0 d1 d2 d3 hc0 hc1
    cases hv : fvalid p m with
    | false =>
     have hr : lawE l = 17 := by
      have h1 : l.ifs.any (fun s => !fvalid s.1 s.2) = true := List.any_eq_true.2 ⟨(p, m), List.mem_of_getElem? HXK.out, by simp [hv]⟩
      unfold lawE badLaw; rw [h1]; simp
     have HR := hI hr; clear hr hv
     go_wp2
     go_ret
     exact ⟨by rw [HR.out]; rfl, hB5⟩
    | true =>
     have HV := hI hv; clear hv
     go_wp2
     go_roundw
     case rel => exact ⟨k + 1, by omega, by go_num, (by show _ = _; rw [HS.out, List.any_append, hall.out]; simp [HV.out]), hB5, H05⟩
     case measure => simp [intOf]; omega
   ·obtain rfl : k = l.ifs.length := by omega
    have hif : l.ifs.any (fun s => !fvalid s.1 s.2) = false := by
     have := hall.out; rwa [List.take_of_length_le rr] at this
    have HIF := hI hif; clear hif
    go_wp2_with fail
    clear d0 d1 d2 d3
    go_loopw [4] (fun i wr => ∃ k : Nat, k ≤ l.outs.length ∧ i = .int .i64 k ∧ Hid ((l.outs.take k).any (fun x => !fitsM x l.ifs.length) = false) ∧ Below w.heap.size w wr ∧ Hid (wr.heap[w.heap.size]? = some (.cells (lawCs l a) 34 (0, 0)))) (fun i _ => l.outs.length - (intOf i).toNat)
    case atStart => exact ⟨0, Nat.zero_le _, rfl, by simp [Hid], hB, hr0⟩
    case round =>
     obtain ⟨j, hj, rfl, hallj, hBj, hrj⟩ := hrel
     have hBjs := hBj.size
     have hLj := lt_of_block hrj.out
     obtain ⟨d0, d1, d2, d3⟩ := law_reads hrj.out
     by_cases hlt : j < l.outs.length
     ·obtain ⟨x, hx⟩ : ∃ x, l.outs[j]? = some x := ⟨l.outs[j], List.getElem?_eq_getElem _⟩
      obtain ⟨b, off, hA, hbl, hcs⟩ := (HL.out.2.2.2.1.below hBj rr).at_ OutD.len (by decide) hx
      have hlt' : (j : Int) < (l.outs.length : Int) := by omega
      have hmem := HU.out.2.2.2.2.2 x (List.mem_of_getElem? hx)
      have HM := hI hmem; clear hmem
      have HS := hI (take_snoc' l.outs j x hx)
      have HX := hI hx; clear hx
      have g0 := hcs 0 _ rfl
      have g1 := hcs 1 _ rfl
      have g2 := hcs 2 _ rfl
      have g3 := hcs 3 _ rfl
      have g4 := hcs 4 _ rfl
      have g5 := hcs 5 _ rfl
      simp only [Nat.add_zero, ← Nat.add_assoc] at g0 g1 g2 g3 g4 g5
      rw [hA] at d2
      clear hA hcs
      have hjn : ((j : Int)).toNat = j := by omega
      go_wp2
      refine plain_region (fun W' => W'.cell? ⟨w.heap.size, 16, none⟩ = some (.slice (some ⟨b, off, none⟩) l.outs.length a.co) ∧ W'.cell? ⟨w.heap.size, 15, none⟩ = some (.slice a.Ai l.ifs.length a.ci) ∧
       W'.cell? ⟨b, off + j * 6, none⟩ = some (.int .i64 x.frm) ∧ W'.cell? ⟨b, off + j * 6 + 1, none⟩ = some (.int .u32 x.clear) ∧ W'.cell? ⟨b, off + j * 6 + 2, none⟩ = some (.int .u32 x.sp) ∧
       W'.cell? ⟨b, off + j * 6 + 3, none⟩ = some (.int .u32 x.sm) ∧ W'.cell? ⟨b, off + j * 6 + 4, none⟩ = some (.int .u32 x.take) ∧ W'.cell? ⟨b, off + j * 6 + 5, none⟩ = some (.int .i64 x.of_)) (by kernel_rfl) ⟨d2, d1, g0, g1, g2, g3, g4, g5⟩ (fun hHeld => ?_)
      (refine' anyT_tk 0 rfl ?_; (try simp only [Act.put, nY, nX])); (refine' anyT_tk 1 rfl ?_; (try simp only [Act.put, nY, nX])); (refine' anyT_tk 2 rfl ?_; (try simp only [Act.put, nY, nX])); (refine' anyT_tk 3 rfl ?_; (try simp only [Act.put, nY, nX])); (refine' anyT_tk 4 rfl ?_; (try simp only [Act.put, nY, nX])); (refine' anyT_tk 5 rfl ?_; (try simp only [Act.put, nY, nX])); (refine' anyT_tk 6 rfl ?_; (try simp only [Act.put, nY, nX])); (refine' anyT_tk 7 rfl ?_; (try simp only [Act.put, nY, nX]))
      (refine anyT_sp 8 rfl (fun K' hK' => ?_); simp only [nY]; go_simp)
      refine (r8fits_c x _ _ HM.out.2.1 HM.out.2.2.1).mono ?_
      rintro e w5 ⟨rfl, hb5'⟩
      have hb5 : Below wr.heap.size wr w5 := (Below.refl wr.heap.size wr).drew.trans hb5'
      have hB5 := hBj.trans (hb5.mono hBjs)
      have H05 : Hid (w5.heap[w.heap.size]? = some (.cells (lawCs l a) 34 (0, 0))) := (hb5.block _ hLj).trans hrj.out
      have hS5 := (show _ ∧ _ ∧ _ ∧ _ ∧ _ ∧ _ ∧ _ ∧ _ from ⟨(hb5.cell (p := ⟨w.heap.size, 16, none⟩) hLj).trans d2, (hb5.cell (p := ⟨w.heap.size, 15, none⟩) hLj).trans d1, (hb5.cell (p := ⟨b, off + j * 6, none⟩) hbl).trans g0, (hb5.cell (p := ⟨b, off + j * 6 + 1, none⟩) hbl).trans g1, (hb5.cell (p := ⟨b, off + j * 6 + 2, none⟩) hbl).trans g2, (hb5.cell (p := ⟨b, off + j * 6 + 3, none⟩) hbl).trans g3, (hb5.cell (p := ⟨b, off + j * 6 + 4, none⟩) hbl).trans g4, (hb5.cell (p := ⟨b, off + j * 6 + 5, none⟩) hbl).trans g5⟩)
      refine hK' _ _ ⟨.inr hS5, fun _ => ?_⟩
      clear hK' K' hb5' hb5 hHeld hS5 g0 g1 g2 g3 g4 g5 d0 d1 d2 d3
      (try simp only [Act.put, nY, nX])
      (refine anyT_sp 9 rfl (fun K' hK' => ?_); simp only [nY]; go_simp)
      refine hK' _ _ ⟨.inl (by kernel_rfl), fun _ => anyT_done (by kernel_rfl) ?_ _⟩
      clear hK' K'
      cases hv : fitsM x l.ifs.length with
      | false =>
       have hr : lawE l = 17 := by
        have h1 : l.outs.any (fun x => !fitsM x l.ifs.length) = true := List.any_eq_true.2 ⟨x, List.mem_of_getElem? HX.out, by simp [hv]⟩
        unfold lawE badLaw; rw [h1]; simp
       have HR := hI hr; clear hr hv
       go_wp2
       go_ret
       exact ⟨by rw [HR.out]; rfl, hB5⟩
      | true =>
       have HV := hI hv; clear hv
       go_wp2
       go_roundw
       case rel => exact ⟨j + 1, by omega, by go_num, (by show _ = _; rw [HS.out, List.any_append, hallj.out]; simp [HV.out]), hB5, H05⟩
       case measure => simp [intOf]; omega
     ·obtain rfl : j = l.outs.length := by omega
      have hr : lawE l = 0 := by
       have hout : l.outs.any (fun x => !fitsM x l.ifs.length) = false := by
        have := hallj.out; rwa [List.take_of_length_le rr] at this
       unfold lawE badLaw
       rw [HNM.out, HCL.out, HCR.out, HIF.out, hout]
       simp [h4, h6, hm1, hm3, H00.out]
       intro h5 h6'
       exact H00.out (by rw [h5, h6']; rfl)
      have HR := hI hr; clear hr
      go_wp2
      go_ret
      exact ⟨by rw [HR.out]; rfl, hBj⟩
theorem r8check_c (l : LawD) (a : LawA) (A : Option Addr) (n c : Nat) (ws : List Snd) (w : World) (hl : LawAt w l a) (hw : IsWord w A n c ws) (hu : LawU l) (hwu : WordU ws) :
  Calls Tryz.prog 196 #[lawV l a, .slice A n c] w fun e w' => e = .returned (.int .i64 (lcheckE l ws)) ∧ Below w.heap.size w w' := by
 have HL := hI hl; clear hl
 have HW := hI hw; clear hw
 have HU := hI hu; clear hu
 have HWU := hI hwu; clear hwu
 obtain ⟨Wb, hWb, hrb, hlb, hBb, hzb⟩ := law_box w l a
 go_enter Tryz.func196, Tryz.ntmps196
 go_wp2_with (refine load_law rfl (.tmp 2) rfl w.heap.size l a rfl hrb ?_)
 clear hWb
 refine (r8Check_c l a _ (HL.out.below hBb rr) HU.out).mono ?_
 rintro e w1 ⟨rfl, hb1⟩
 have hB1 : Below w.heap.size w w1 := hBb.trans (hb1.mono hBb.size)
 clear hb1
 by_cases hE : lawE l = 0
 ·have hE1 : (lawE l != 0) = false := by simpa using hE
  have hr : lcheckE l ws = wcheck ws := by unfold lcheckE; rw [if_pos hE]
  have HR := hI hr; clear hr hE
  go_wp2_with fail
  refine (r2Check_c A n c ws w1 (HW.out.below hB1 rr) HWU.out).mono ?_
  rintro e w2 ⟨rfl, hb2⟩
  have hB2 := hB1.trans (hb2.mono hB1.size)
  clear hb2
  go_wp2
  go_ret
  exact ⟨by rw [HR.out]; rfl, hB2⟩
 ·have hE1 : (lawE l != 0) = true := by simpa using hE
  have hr : lcheckE l ws = lawE l := by unfold lcheckE; rw [if_neg hE]
  have HR := hI hr; clear hr hE
  go_wp2
  go_ret
  exact ⟨by rw [HR.out]; rfl, hB1⟩
end Go.Proofs.YtcpcojgmmpnkoaaGreatDoor
namespace Go.Proofs.YtcpcojgmmpnkoaaGreatDoor
open Go.RowKit Go.Shelf
attribute [local go_sem] Oper.semAt_some
theorem u32_nat (x : BitVec 32) : U32 ((x.toNat : Nat) : Int) := ⟨by omega, by have := x.isLt; omega⟩
theorem mixI_u (s f set : Int) : U32 (mixI s f set) := by unfold mixI; rw [or_bv]; exact u32_nat _
theorem u32_0 : U32 0 := ⟨by omega, by omega⟩
theorem changeM_u (s : Snd) (c : Int) (t : Snd) : SndU (changeM s c t) := by
 unfold changeM
 split
 ·exact ⟨mixI_u _ _ _, mixI_u _ _ _⟩
 ·exact ⟨u32_0, u32_0⟩
theorem takeM_u (s t : Snd) (m : Int) : SndU (takeM s t m) := by
 unfold takeM
 split
 ·exact ⟨mixI_u _ _ _, mixI_u _ _ _⟩
 ·exact ⟨u32_0, u32_0⟩
theorem putS_u (cut : List Snd) (x : OutD) : SndU (putS cut x) := by
 unfold putS
 dsimp only
 split
 ·exact takeM_u _ _ _
 ·exact changeM_u _ _ _
theorem putM_u (l : LawD) (cut : List Snd) : WordU (putM l cut) := by
 intro s hs
 obtain ⟨x, _, rfl⟩ := List.mem_map.1 hs
 exact putS_u cut x
theorem WordU.take {ws : List Snd} (h : WordU ws) (k : Nat) : WordU (ws.take k) := fun s hs => h s (List.mem_of_mem_take hs)
theorem WordU.drop {ws : List Snd} (h : WordU ws) (k : Nat) : WordU (ws.drop k) := fun s hs => h s (List.mem_of_mem_drop hs)
theorem WordU.append {a b : List Snd} (h : WordU a) (h' : WordU b) : WordU (a ++ b) := fun s hs => (List.mem_append.1 hs).elim (h s) (h' s)
theorem replaceM_u {l : LawD} {ws : List Snd} {at_ : Nat} (hw : WordU ws) : WordU (replaceM l ws at_) := by
 unfold replaceM
 exact ((hw.take _).append (putM_u l _)).append (hw.drop _)
theorem low_le {x : Int} (hu : U32 x) (h : ∀ i, 24 ≤ i → (bv x).getLsbD i = false) : x ≤ 16777215 := by
 have := (u32_low hu).2 h; omega
theorem fits_change {x : OutD} {k : Int} (h : fitsM x k = true) (hu : OutU x) : fvalid x.sp x.sm = true ∧ x.clear ≤ 16777215 ∧ bits .and .u32 x.clear (bits .or .u32 x.sp x.sm) = 0 ∧ x.take ≤ 16777215 := by
 obtain ⟨h1, h2, h3⟩ := fits_low h
 refine ⟨(fvalid_iff _ _).2 h1, low_le hu.1 h2, ?_, low_le hu.2.2.2 h3⟩
 unfold fitsM at h
 split at h
 ·cases h
 ·split at h
  ·cases h
  ·rename_i h2
   simp only [Bool.or_eq_true, not_or, bne_iff_ne, ne_eq, Decidable.not_not] at h2
   exact h2.1.2
theorem r8put_c (l : LawD) (a : LawA) (A : Option Addr) (c : Nat) (cut : List Snd) (w : World) (hl : LawAt w l a) (hw : IsWord w A l.ifs.length c cut) (hfit : ∀ x ∈ l.outs, fitsM x l.ifs.length = true) (hm : l.outs.length ≤ 64) (hu : LawU l) (hcu : WordU cut) (hco : OkW cut) :
  Calls Tryz.prog 210 #[lawV l a, .slice A l.ifs.length c] w (RetWord w (putM l cut)) := by
 have hk63 := hw.max
 have hcl := hw.len
 have HCL := hI hcl; clear hcl
 have HL := hI hl; clear hl
 have HW := hI hw; clear hw
 have HF := hI hfit; clear hfit
 have HUO := hI hu.2.2.2.2.2; clear hu
 have HCU := hI hcu; clear hcu
 have HCO := hI hco; clear hco
 obtain ⟨Wb, hWb, hrb, hlb, hBb, hzb⟩ := law_box w l a
 obtain ⟨d0, d1, d2, d3⟩ := law_reads hrb
 obtain ⟨Ao, hAo⟩ : ∃ Ao, Ao = a.Ao := ⟨_, rfl⟩
 have HAO := hI hAo
 rw [← hAo] at d2
 have hro : Recs OutD.cells 6 w Ao l.outs.length a.co l.outs := by rw [hAo]; exact HL.out.2.2.2.1
 have HRO := hI hro
 clear hAo hro
 go_enter Tryz.func210, Tryz.ntmps210
 go_wp2
 clear hWb d0 d1 d2 d3
 have HRB := hI hrb; clear hrb
 have HWW : Hid (IsWord Wb A l.ifs.length c cut) := HW.out.below hBb rr
 have HROW : Hid (Recs OutD.cells 6 Wb Ao l.outs.length a.co l.outs) := HRO.out.below hBb rr
 have HLB := hI hlb
 go_loopw [5, 6] (fun v i wr => ∃ j : Nat, i = .int .i64 j ∧ j ≤ l.outs.length ∧ Hid (wr.ownsRow Wb.heap.size 24 2 v j (wcells ((l.outs.take j).map (putS cut)))) ∧ Below Wb.heap.size Wb wr) (fun _ i _ => l.outs.length - (intOf i).toNat)
 case atStart => exact ⟨0, rfl, Nat.zero_le _, World.ownsRow_nil _ _ _ _, Below.refl _ _⟩
 case round =>
  obtain ⟨j, rfl, hj, hown, hB⟩ := hrel
  have hBs := hB.size
  have hrr := (hB.block _ HLB.out).trans HRB.out
  obtain ⟨d0, d1, d2, d3⟩ := law_reads hrr
  rw [← HAO.out] at d2
  clear hrr d0 d1 d3
  have hj63 : l.outs.length ≤ 64 := hm
  by_cases hjl : j < l.outs.length
  ·obtain ⟨x, hx⟩ : ∃ x, l.outs[j]? = some x := ⟨l.outs[j], List.getElem?_eq_getElem _⟩
   obtain ⟨b, off, rfl, hbl, hcs⟩ := (HROW.out.below hB rr).at_ OutD.len (by decide) hx
   obtain ⟨hb1, hb2⟩ := fits_bounds (HF.out x (List.mem_of_getElem? hx))
   have hou := HUO.out x (List.mem_of_getElem? hx)
   have HOU := hI hou
   have HCV := hI (fits_change (HF.out x (List.mem_of_getElem? hx)) hou)
   have HOK := hI (fits_low (HF.out x (List.mem_of_getElem? hx)))
   clear hou
   have hjl' : (j : Int) < (l.outs.length : Int) := by omega
   have g0 := hcs 0 _ rfl
   have g1 := hcs 1 _ rfl
   have g2 := hcs 2 _ rfl
   have g3 := hcs 3 _ rfl
   have g4 := hcs 4 _ rfl
   have g5 := hcs 5 _ rfl
   simp only [Nat.add_zero, ← Nat.add_assoc] at g0 g1 g2 g3 g4 g5
   have HX := hI hx
   have HB2 := hI hb2
   clear hcs hx hb2
   obtain ⟨s0, hs0⟩ : ∃ s0 : Snd, s0 = if 0 ≤ x.frm then cut.getD x.frm.toNat (0, 0) else (0, 0) := ⟨_, rfl⟩
   have hwr0 : IsWord wr A l.ifs.length c cut := HWW.out.below hB rr
   have HWR := hI hwr0; clear hwr0
   obtain ⟨fr, hfr⟩ : ∃ fr, fr = x.frm := ⟨_, rfl⟩
   have HSO := hI hs0.symm
   rw [← hfr] at g0 hb1 hs0
   have HFR := hI hfr; clear hfr
   by_cases h0 : 0 ≤ fr
   case' pos =>
    obtain ⟨f, rfl⟩ : ∃ f : Nat, fr = f := ⟨fr.toNat, by omega⟩
    obtain ⟨bw, ow, p, q, hAw, hbwl, hwx, hw0, hw1⟩ := HWR.out.at_ (k := f) (by omega)
    have hs1 : s0 = (p, q) := by rw [hs0, if_pos h0, Int.toNat_natCast, getD_of hwx]
    have HS0 := hI hs1
    have HSU : Hid (SndU (p, q)) := HCU.out _ (List.mem_of_getElem? hwx)
    have HSO1 : Hid (OkS (p, q)) := HCO.out _ (List.mem_of_getElem? hwx)
    have hfl : (f : Int) < (l.ifs.length : Int) := by omega
    subst hAw
    clear h0 hb1 hs0 hs1 hwx
   case' neg =>
    have hs1 : s0 = (0, 0) := by rw [hs0, if_neg h0]
    have HS0 := hI hs1
    have HSU : Hid (SndU ((0, 0) : Snd)) := ⟨u32_0, u32_0⟩
    have HSO1 : Hid (OkS ((0, 0) : Snd)) := ok00
    have hfl : fr < 0 := by omega
    clear h0 hb1 hs0 hs1
   all_goals
    go_wp2_with fail
    refine (r1Change_c _ _ x.clear x.sp x.sm _ HSU.out.1 HSU.out.2 HOU.out.2.1 HOU.out.2.2.1 HOU.out.1 ((fvalid_iff _ _).2 HSO1.out) HCV.out.1 HCV.out.2.1 HCV.out.2.2.1).mono ?_
    rintro e w1 ⟨er, rfl, hb1⟩
    have hz1 := hb1.size
    simp only [World.size_alloc] at hz1
    rw [← HS0.out]
    have hbx := (hb1.block wr.heap.size (by simp; omega)).trans ((heap_old_at (by simp)).trans (heap_new_at rfl))
    have hbs := (hb1.block (wr.heap.size + 1) (by simp)).trans (heap_new_at (by simp))
    have hB1 : Below Wb.heap.size Wb w1 := ((hB.alloc hB.size _).alloc (by simp; omega) _).trans (hb1.mono (by simp; omega))
    have hown1 := own_keep ((hown.out.alloc _).alloc _) hb1 rr
    obtain ⟨⟨p1, q1⟩, hc1⟩ : ∃ s : Snd, s = changeM s0 x.clear (x.sp, x.sm) := ⟨_, rfl⟩
    rw [← hc1]
    have HU1 : Hid (SndU (p1, q1)) := by show SndU _; rw [hc1]; exact changeM_u _ _ _
    have HO1 : Hid (OkS (p1, q1)) := by show OkS _; rw [hc1, HS0.out]; exact changeM_ok HSO1.out HOK.out.1 HOK.out.2.1
    have HC1 := hI hc1; clear hc1
    have e3 := cell_at_heap (j := 4) hbx rfl
    have e4 := cell_at_heap (j := 5) hbx rfl
    have e5 := cell_at_heap (j := 0) hbs rfl
    have e6 := cell_at_heap (j := 1) hbs rfl
    have f5 := frozen_of_row w1 (wr.heap.size + 1) 0 _ _ hbs
    have f6 := frozen_of_row w1 (wr.heap.size + 1) 1 _ _ hbs
    have HBX := hI hbx; clear hbx
    have HBS := hI hbs; clear hbs
    have HOWN1 := hI hown1; clear hown1 hb1
    clear g0 g1 g2 g3 g4 g5
   all_goals
    by_cases ht : x.take = 0
    case' neg =>
     obtain ⟨ho1, ho2⟩ := HB2.out ht
     have ht1 : (x.take != 0) = true := by simpa using ht
     obtain ⟨g, hg⟩ : ∃ g : Nat, g = x.of_.toNat := ⟨_, rfl⟩
     have hgx : x.of_ = (g : Int) := by omega
     have HG := hI hg; clear hg
     rw [hgx] at e4 ho2
     obtain ⟨bo, oo, p2, q2, hA2, hbol, hwx2, hv0, hv1⟩ := HWW.out.at_ (k := g) (by omega)
     first | subst hA2 | (obtain ⟨rfl, rfl⟩ : bo = bw ∧ oo = ow := by simpa using hA2.symm)
     have HWX2 := hI hwx2; clear hwx2 hgx ho1
     have v0 := (hB1.cell (p := ⟨bo, oo + g * 2, none⟩) hbol).trans hv0
     have v1 := (hB1.cell (p := ⟨bo, oo + g * 2 + 1, none⟩) hbol).trans hv1
     clear hv0 hv1
     have hgl : (g : Int) < (l.ifs.length : Int) := by omega
     have hgn : ((g : Int)).toNat = g := by omega
     go_wp2
     have hBs1 := hB1.size
     have y0 : ((w1.setCell ⟨wr.heap.size + 1, 0, none⟩ (.int .u32 p1)).setCell ⟨wr.heap.size + 1, 1, none⟩ (.int .u32 q1)).heap[wr.heap.size + 1]? = some (.cells #[.int .u32 p1, .int .u32 q1] 24 (0, 0)) := by
      have h := heap_setCell_same (o := 1) (u := .int .u32 q1) (heap_setCell_same (o := 0) (u := .int .u32 p1) HBS.out)
      exact h
     have hown2 := ownsRow_setCell_other (ownsRow_setCell_other HOWN1.out (a := ⟨wr.heap.size + 1, 0, none⟩) (fun e => by have h : wr.heap.size + 1 < wr.heap.size := (hown.out.lt _ e).2; omega) (.int .u32 p1)) (a := ⟨wr.heap.size + 1, 1, none⟩) (fun e => by have h : wr.heap.size + 1 < wr.heap.size := (hown.out.lt _ e).2; omega) (.int .u32 q1)
     have hB2 : Below Wb.heap.size Wb ((w1.setCell ⟨wr.heap.size + 1, 0, none⟩ (.int .u32 p1)).setCell ⟨wr.heap.size + 1, 1, none⟩ (.int .u32 q1)) := (hB1.setCell (p := ⟨wr.heap.size + 1, 0, none⟩) (by simp; omega) _).setCell (p := ⟨wr.heap.size + 1, 1, none⟩) (by simp; omega) _
     have y1 : ((w1.setCell ⟨wr.heap.size + 1, 0, none⟩ (.int .u32 p1)).setCell ⟨wr.heap.size + 1, 1, none⟩ (.int .u32 q1)).heap[wr.heap.size]? = w1.heap[wr.heap.size]? := (Below.heap_setCell _ _ _ _ (by simp)).trans (Below.heap_setCell _ _ _ _ (by simp))
     have z3 := (World.cell?_of_block (a := ⟨wr.heap.size, 4, none⟩) y1).trans e3
     have z4 := (World.cell?_of_block (a := ⟨wr.heap.size, 5, none⟩) y1).trans e4
     have z0 : ((w1.setCell ⟨wr.heap.size + 1, 0, none⟩ (.int .u32 p1)).setCell ⟨wr.heap.size + 1, 1, none⟩ (.int .u32 q1)).cell? ⟨bo, oo + g * 2, none⟩ = some (.int .u32 p2) := by rw [cell_set_block (by omega), cell_set_block (by omega)]; exact v0
     have z1 : ((w1.setCell ⟨wr.heap.size + 1, 0, none⟩ (.int .u32 p1)).setCell ⟨wr.heap.size + 1, 1, none⟩ (.int .u32 q1)).cell? ⟨bo, oo + g * 2 + 1, none⟩ = some (.int .u32 q2) := by rw [cell_set_block (by omega), cell_set_block (by omega)]; exact v1
     have hUs : ((w1.setCell ⟨wr.heap.size + 1, 0, none⟩ (.int .u32 p1)).setCell ⟨wr.heap.size + 1, 1, none⟩ (.int .u32 q1)).heap.size = w1.heap.size := by simp
     generalize ((w1.setCell ⟨wr.heap.size + 1, 0, none⟩ (.int .u32 p1)).setCell ⟨wr.heap.size + 1, 1, none⟩ (.int .u32 q1)) = U at *
     have z5 := cell_at_heap (j := 0) y0 rfl
     have z6 := cell_at_heap (j := 1) y0 rfl
     have HY0 := hI y0; clear y0
     have HUS := hI hUs; clear hUs
     have HOWN2 := hI hown2; clear hown2
     have HB2 := hI hB2; clear hB2
     clear y1 e3 e4 e5 e6 f5 f6 v0 v1
     refine plain_regionU 8 (fun W' => W'.cell? ⟨bo, oo + g * 2, none⟩ = some (.int .u32 p2) ∧ W'.cell? ⟨bo, oo + g * 2 + 1, none⟩ = some (.int .u32 q2) ∧ W'.cell? ⟨wr.heap.size, 4, none⟩ = some (.int .u32 x.take) ∧ W'.cell? ⟨wr.heap.size, 5, none⟩ = some (.int .i64 g) ∧
      W'.cell? ⟨wr.heap.size + 1, 0, none⟩ = some (.int .u32 p1) ∧ W'.cell? ⟨wr.heap.size + 1, 1, none⟩ = some (.int .u32 q1)) (by kernel_rfl) ⟨z0, z1, z3, z4, z5, z6⟩ (fun hHeld => ?_)
     (refine' anyU_take (i := 0) 8 (v := _) rfl (by kernel_rfl) (by kernel_rfl) (by kernel_rfl) (by kernel_rfl) (fun _ _ _ h => h) (Or.inl ⟨by rfl, fun w' hSw => by (try dsimp only at hSw); go_split_ands; go_simp; (try with_reducible rfl)⟩) (by assumption) ?_; (try simp only [Act.put, nY, nX])); (refine' anyU_take (i := 1) 4 (v := _) rfl (by kernel_rfl) (by kernel_rfl) (by kernel_rfl) (by kernel_rfl) (fun _ _ _ h => h) (Or.inl ⟨by rfl, fun w' hSw => by (try dsimp only at hSw); go_split_ands; go_simp; (try with_reducible rfl)⟩) (by assumption) ?_; (try simp only [Act.put, nY, nX])); (refine' anyU_take (i := 2) 3 (v := _) rfl (by kernel_rfl) (by kernel_rfl) (by kernel_rfl) (by kernel_rfl) (fun _ _ _ h => h) (Or.inl ⟨by rfl, fun w' hSw => by (try dsimp only at hSw); go_split_ands; go_simp; (try with_reducible rfl)⟩) (by assumption) ?_; (try simp only [Act.put, nY, nX])); (refine' anyU_take (i := 3) 4 (v := _) rfl (by kernel_rfl) (by kernel_rfl) (by kernel_rfl) (by kernel_rfl) (fun _ _ _ h => h) (Or.inl ⟨by rfl, fun w' hSw => by (try dsimp only at hSw); go_split_ands; go_simp; (try with_reducible rfl)⟩) (by assumption) ?_; (try simp only [Act.put, nY, nX])); (refine' anyU_take (i := 4) 5 (v := _) rfl (by kernel_rfl) (by kernel_rfl) (by kernel_rfl) (by kernel_rfl) (fun _ _ _ h => h) (Or.inl ⟨by rfl, fun w' hSw => by (try dsimp only at hSw); go_split_ands; go_simp; (try with_reducible rfl)⟩) (by assumption) ?_; (try simp only [Act.put, nY, nX])); (refine' anyU_take (i := 5) 8 (v := _) rfl (by kernel_rfl) (by kernel_rfl) (by kernel_rfl) (by kernel_rfl) (fun _ _ _ h => h) (Or.inl ⟨by rfl, fun w' hSw => by (try dsimp only at hSw); go_split_ands; go_simp; (try with_reducible rfl)⟩) (by assumption) ?_; (try simp only [Act.put, nY, nX])); (refine' anyU_take (i := 6) 7 (v := _) rfl (by kernel_rfl) (by kernel_rfl) (by kernel_rfl) (by kernel_rfl) (fun _ _ _ h => h) (Or.inl ⟨by rfl, fun w' hSw => by (try dsimp only at hSw); go_split_ands; go_simp; (try with_reducible rfl)⟩) (by assumption) ?_; (try simp only [Act.put, nY, nX])); (refine' anyU_take (i := 7) 8 (v := _) rfl (by kernel_rfl) (by kernel_rfl) (by kernel_rfl) (by kernel_rfl) (fun _ _ _ h => h) (Or.inl ⟨by rfl, fun w' hSw => by (try dsimp only at hSw); go_split_ands; go_simp; (try with_reducible rfl)⟩) (by assumption) ?_; (try simp only [Act.put, nY, nX]))
     (refine anyU_step (i := 8) (by kernel_rfl) rfl (fun K' hK' => ?_); simp only [nY]; go_simp)
     refine (r1Take_c p1 q1 p2 q2 x.take _ HU1.out.1 HU1.out.2 (HCU.out _ (List.mem_of_getElem? HWX2.out)).1 (HCU.out _ (List.mem_of_getElem? HWX2.out)).2 HOU.out.2.2.2 ((fvalid_iff _ _).2 HO1.out) ((fvalid_iff _ _).2 (HCO.out _ (List.mem_of_getElem? HWX2.out))) HCV.out.2.2.2).mono ?_
     rintro e w3 ⟨er2, rfl, hb3⟩
     have hz3 := hb3.size
     have hUd : U.drew.heap.size = U.heap.size := rfl
     obtain ⟨⟨p3, q3⟩, hc3⟩ : ∃ s : Snd, s = takeM (p1, q1) (p2, q2) x.take := ⟨_, rfl⟩
     rw [← hc3]
     have hps : putS cut x = (p3, q3) := by
      unfold putS
      have e1 := HFR.out
      have e2 : (if 0 ≤ x.frm then cut.getD x.frm.toNat (0, 0) else (0, 0)) = s0 := HSO.out
      simp only [e2, ← HC1.out]
      rw [if_pos ht, hc3, ← HG.out, getD_of HWX2.out]
     have HPS := hI hps; clear hps hc3
     have hB3 : Below Wb.heap.size Wb w3 := HB2.out.drew.trans (hb3.mono HB2.out.size)
     have hown3 := own_keep (w := U.drew) HOWN2.out hb3 rr
     have y3 : w3.heap[wr.heap.size + 1]? = some (.cells #[.int .u32 p1, .int .u32 q1] 24 (0, 0)) := (hb3.block _ (lt_of_block HY0.out)).trans HY0.out
     refine hK' _ _ ⟨.inl (by kernel_rfl), fun _ => anyU_of_T _ _ _ _ (by kernel_rfl) ?_⟩
     clear hK' K' hb3 hUd hHeld
     have f5 := frozen_of_row w3 (wr.heap.size + 1) 0 _ _ y3
     have f6 := frozen_of_row w3 (wr.heap.size + 1) 1 _ _ y3
     have c5 := cell_at_heap (j := 0) y3 rfl
     have c6 := cell_at_heap (j := 1) y3 rfl
     have Y3 := hI y3; clear y3
     have HB3 := hI hB3; clear hB3
     have HOWN3 := hI hown3; clear hown3
     (try simp only [Act.put, nY, nX])
     (refine' anyT_takeF (i := 9) (v := _) rfl (by kernel_rfl) (by kernel_rfl) (by kernel_rfl) (fun _ _ _ h => h) (Or.inl ⟨by rfl, fun w' hSw => by go_simp; (try with_reducible rfl)⟩) ?_; (try simp only [Act.put, nY, nX])); (refine' anyT_takeF (i := 10) (v := _) rfl (by kernel_rfl) (by kernel_rfl) (by kernel_rfl) (fun _ _ _ h => h) (Or.inl ⟨by rfl, fun w' hSw => by go_simp; (try with_reducible rfl)⟩) ?_; (try simp only [Act.put, nY, nX])); (refine' anyT_takeF (i := 11) (v := _) rfl (by kernel_rfl) (by kernel_rfl) (by kernel_rfl) (fun _ _ _ h => h) (Or.inl ⟨by rfl, fun w' hSw => by go_simp; (try with_reducible rfl)⟩) ?_; (try simp only [Act.put, nY, nX]))
     (refine anyT_sp 12 rfl (fun K' hK' => ?_); simp only [nY]; go_simp)
     refine hK' _ _ ⟨.inl (by kernel_rfl), fun _ => anyT_done (by kernel_rfl) ?_ _⟩
     clear hK' K'
     have t0 : ((w3.setCell ⟨wr.heap.size + 1, 0, none⟩ (.int .u32 p3)).setCell ⟨wr.heap.size + 1, 1, none⟩ (.int .u32 q3)).heap[wr.heap.size + 1]? = some (.cells #[.int .u32 p3, .int .u32 q3] 24 (0, 0)) := by
      have h := heap_setCell_same (o := 1) (u := .int .u32 q3) (heap_setCell_same (o := 0) (u := .int .u32 p3) Y3.out)
      exact h
     have town := ownsRow_setCell_other (ownsRow_setCell_other HOWN3.out (a := ⟨wr.heap.size + 1, 0, none⟩) (fun e => by have h : wr.heap.size + 1 < wr.heap.size := (hown.out.lt _ e).2; omega) (.int .u32 p3)) (a := ⟨wr.heap.size + 1, 1, none⟩) (fun e => by have h : wr.heap.size + 1 < wr.heap.size := (hown.out.lt _ e).2; omega) (.int .u32 q3)
     have tB : Below Wb.heap.size Wb ((w3.setCell ⟨wr.heap.size + 1, 0, none⟩ (.int .u32 p3)).setCell ⟨wr.heap.size + 1, 1, none⟩ (.int .u32 q3)) := (HB3.out.setCell (p := ⟨wr.heap.size + 1, 0, none⟩) (by simp; omega) _).setCell (p := ⟨wr.heap.size + 1, 1, none⟩) (by simp; omega) _
     generalize ((w3.setCell ⟨wr.heap.size + 1, 0, none⟩ (.int .u32 p3)).setCell ⟨wr.heap.size + 1, 1, none⟩ (.int .u32 q3)) = w4 at *
     have t1 := cell_at_heap (j := 0) t0 rfl
     have t2 := cell_at_heap (j := 1) t0 rfl
     have HT0 := hI t0; clear t0
     have TOWN := hI town; clear town
     have TB := hI tB; clear tB
     have htl : Wb.heap.size ≤ w4.heap.size := by have := lt_of_block HT0.out; omega
     have htl2 : Wb.heap.size ≤ w4.heap.size := TB.out.size
     go_wp2_with (at_builtin; refine append_snd rfl (.tmp 54) (.tmp 56) rfl Wb.heap.size u5 j ((l.outs.take j).map (putS cut)) rfl (TOWN.out.alloc _) (some ⟨w4.heap.size, 0, none⟩) 1 1 [(p3, q3)] rfl (word_one w4 p3 q3 24) (by omega) (by simp; omega) ?_; intro v' w9 hown9 hg9 _)
     have hr0 : ∀ k, u5.ownBlock = some k → Wb.heap.size ≤ k := fun k hk => by have := (hown.out.lt _ hk).1; omega
     have hB9 : Below Wb.heap.size Wb w9 := (TB.out.alloc htl2 _).grown hg9 (by simp; omega) hr0
     have HOWN9 := hI hown9
     have HB9 := hI hB9
     clear hown9 hg9 hB9 hr0
     go_roundw
     case rel =>
      refine ⟨j + 1, by go_num, by omega, ?_, HB9.out⟩
      show w9.ownsRow _ _ _ _ _ _
      rw [take_snoc' l.outs j x HX.out, List.map_append, List.map_cons, List.map_nil, HPS.out]
      have h9 := HOWN9.out
      try rw [← List.map_take] at h9
      exact h9
     case measure => simp [intOf]; omega
    case' pos =>
     have ht1 : (x.take != 0) = false := by rw [ht]; rfl
     have hps : putS cut x = (p1, q1) := by
      unfold putS
      have e2 : (if 0 ≤ x.frm then cut.getD x.frm.toNat (0, 0) else (0, 0)) = s0 := HSO.out
      simp only [e2, ← HC1.out]
      rw [if_neg (by simpa using ht)]
     have HPS := hI hps; clear hps
     have hBs1 := hB1.size
     have town := ownsRow_setCell_other (ownsRow_setCell_other HOWN1.out (a := ⟨wr.heap.size + 1, 0, none⟩) (fun e => by have h : wr.heap.size + 1 < wr.heap.size := (hown.out.lt _ e).2; omega) (.int .u32 p1)) (a := ⟨wr.heap.size + 1, 1, none⟩) (fun e => by have h : wr.heap.size + 1 < wr.heap.size := (hown.out.lt _ e).2; omega) (.int .u32 q1)
     have tB : Below Wb.heap.size Wb ((w1.setCell ⟨wr.heap.size + 1, 0, none⟩ (.int .u32 p1)).setCell ⟨wr.heap.size + 1, 1, none⟩ (.int .u32 q1)) := (hB1.setCell (p := ⟨wr.heap.size + 1, 0, none⟩) (by simp; omega) _).setCell (p := ⟨wr.heap.size + 1, 1, none⟩) (by simp; omega) _
     have TOWN := hI town; clear town
     have TB := hI tB; clear tB
     have htl : Wb.heap.size ≤ w1.heap.size := by omega
     have tone := word_one ((w1.setCell ⟨wr.heap.size + 1, 0, none⟩ (.int .u32 p1)).setCell ⟨wr.heap.size + 1, 1, none⟩ (.int .u32 q1)) p1 q1 24
     rw [show ((w1.setCell ⟨wr.heap.size + 1, 0, none⟩ (.int .u32 p1)).setCell ⟨wr.heap.size + 1, 1, none⟩ (.int .u32 q1)).heap.size = w1.heap.size by simp] at tone
     have TONE := hI tone; clear tone
     go_wp2_with (at_builtin; refine append_snd rfl (.tmp 54) (.tmp 56) rfl Wb.heap.size u5 j ((l.outs.take j).map (putS cut)) rfl (TOWN.out.alloc _) (some ⟨w1.heap.size, 0, none⟩) 1 1 [(p1, q1)] rfl TONE.out (by omega) (by simp; omega) ?_; intro v' w9 hown9 hg9 _)
     have hr0 : ∀ k, u5.ownBlock = some k → Wb.heap.size ≤ k := fun k hk => by have := (hown.out.lt _ hk).1; omega
     have hB9 : Below Wb.heap.size Wb w9 := (TB.out.alloc (by simp; omega) _).grown hg9 (by simp; omega) hr0
     have HOWN9 := hI hown9
     have HB9 := hI hB9
     clear hown9 hg9 hB9 hr0
     go_roundw
     case rel =>
      refine ⟨j + 1, by go_num, by omega, ?_, HB9.out⟩
      show w9.ownsRow _ _ _ _ _ _
      rw [take_snoc' l.outs j x HX.out, List.map_append, List.map_cons, List.map_nil, HPS.out]
      have h9 := HOWN9.out
      try rw [← List.map_take] at h9
      exact h9
     case measure => simp [intOf]; omega
  ·obtain rfl : j = l.outs.length := by omega
   go_wp2
   go_ret
   have h2 : l.outs.take l.outs.length = l.outs := List.take_of_length_le rr
   have h3 := hown.out
   rw [h2] at h3
   exact RetWord.of_own rfl h3 (hBb.trans (hB.mono hBb.size)) hBb.size
end Go.Proofs.YtcpcojgmmpnkoaaGreatDoor
namespace Go.Proofs.YtcpcojgmmpnkoaaGreatDoor
open Go.RowKit Go.Shelf
attribute [local go_sem] Oper.semAt_some
theorem upon_append_snd {o : Oper} {a : Act} {K : Act → World → Prop} {Q : Exit → Act → World → Prop} (w : World) (s x : Operand)
  (ho : o.op = .call { callee := .builtin .append, args := #[s, x], argTypes := #[32, 32] })
  (base : Nat) (v : Value) (n : Nat) (xs : List Snd) (hs : a.eval s = v) (hown : w.ownsRow base 24 2 v n (wcells xs))
  (A : Option Addr) (m c : Nat) (ys : List Snd) (hx : a.eval x = .slice A m c) (hr : IsWord w A m c ys) (hl : n + m ≤ 4096) (hbase : base ≤ w.heap.size)
  (h : ∀ v' w', w'.ownsRow base 24 2 v' (n + m) (wcells (xs ++ ys)) → w.grownBy w' v.ownBlock → (v' = .slice none 0 0 ↔ v = .slice none 0 0 ∧ m = 0) →
   K (a.put o.dst v') w') : o.wp Tryz.prog a w K Q := by
 obtain ⟨i0, hi, hz0, hz1, hz2⟩ := info_parts snd_info
 refine wp_append_cells w s x 32 ho base 24 i0 _ 2 8 Tryz.underlying32 hi hz0 hz1 hz2 rfl (by decide) v n (wcells xs) hs hown A m c (wcells ys) hx hr
  (wcells_one ys) (by unfold maxLen; omega) (by omega) hbase ?_
 rw [← wcells_append]
 exact h
theorem r8replace_c (l : LawD) (a : LawA) (A : Option Addr) (n c : Nat) (ws : List Snd) (at_ : Nat) (w : World) (hl : LawAt w l a) (hw : IsWord w A n c ws) (hfit : ∀ x ∈ l.outs, fitsM x l.ifs.length = true) (hm : l.outs.length ≤ 64)
  (hat : at_ + l.ifs.length ≤ n) (hn : n ≤ 4000) (hu : LawU l) (hwu : WordU ws) (hwo : OkW ws) :
  Calls Tryz.prog 211 #[lawV l a, .slice A n c, .int .i64 at_] w (RetWord w (replaceM l ws at_)) := by
 have hnc : n ≤ c := hw.2.1
 have hc63 : c ≤ 9223372036854775807 := by have := hw.2.2.1; unfold maxLen at this; omega
 have HL := hI hl; clear hl
 have HW := hI hw; clear hw
 have HU := hI hu; clear hu
 have HWU := hI hwu; clear hwu
 have HWO := hI hwo; clear hwo
 obtain ⟨Wb, hWb, hrb, hlb, hBb, hzb⟩ := law_box w l a
 obtain ⟨d0, d1, d2, d3⟩ := law_reads hrb
 have hi0 : (0 : Int) ≤ (at_ : Int) := by omega
 have hi2 : (at_ : Int) ≤ (c : Int) := by omega
 go_enter Tryz.func211, Tryz.ntmps211
 have HRB := hI hrb; clear hrb
 go_wp2_with (at_builtin; refine append_snd rfl (.tmp 12) (.tmp 15) rfl Wb.heap.size (.slice (some ⟨Wb.heap.size, 0, none⟩) 0 0) 0 [] rfl (World.ownsRow_lit Wb #[] 0 rr (by unfold maxLen; omega) rfl) A at_ c (ws.take at_) rfl (IsWord.take (HW.out.below (hBb.alloc hBb.size _) rr) (show at_ ≤ n by omega)) (by omega) (by simp) ?_; intro v1 w1 hown1 hg1 _)
 clear hWb d0 d1 d2 d3
 have hB1 : Below w.heap.size w w1 := (hBb.alloc hBb.size _).grown hg1 (by simp; omega) (fun k hk => by have h : Wb.heap.size = k := (by simpa [Value.ownBlock] using hk); omega)
 have hr1 : w1.heap[w.heap.size]? = some (.cells (lawCs l a) 34 (0, 0)) := (hg1.block w.heap.size (by simp; omega) (by simp [Value.ownBlock]; omega)).trans ((heap_old_at hlb).trans HRB.out)
 have hz1 : Wb.heap.size ≤ w1.heap.size := by have := hg1.size; simp at this; omega
 have HOWN1 := hI hown1; clear hown1 hg1
 clear hi0 hi2
 go_wp2
 have hi1 : (0 : Int) ≤ (at_ : Int) := by omega
 have hi2 : (at_ : Int) ≤ (c : Int) := by omega
 have hi3 : (at_ : Int) ≤ (at_ : Int) + (l.ifs.length : Int) := by omega
 have hi4 : (at_ : Int) + (l.ifs.length : Int) ≤ (c : Int) := by omega
 have hi5 : (at_ : Int) + (l.ifs.length : Int) ≤ (n : Int) := by omega
 have hi6 : ((at_ : Int) + (l.ifs.length : Int)).toNat = at_ + l.ifs.length := by omega
 have hi7 : (0 : Int) ≤ (at_ : Int) + (l.ifs.length : Int) := by omega
 have hl1 := lt_of_block hr1
 have hwr : IntKind.i64.wrap ((at_ : Int) + (l.ifs.length : Int)) = (at_ : Int) + (l.ifs.length : Int) := IntWalk.i64_in _ (by omega)
 refine plain_region (fun W' => W'.heap[w.heap.size]? = some (.cells (lawCs l a) 34 (0, 0))) (by kernel_rfl) hr1 (fun hHeld => ?_)
 (refine' anyT_tk 0 rfl ?_; (try simp only [Act.put, nY, nX]))
 (refine' anyT_take (i := 1) (v := lawV l a) rfl (by kernel_rfl) (by kernel_rfl) (by kernel_rfl) (by kernel_rfl) (fun _ _ _ h => h) (yields_law (by rfl) (.tmp 3) rfl (w.heap.size) l a (by rfl) (fun w' hSw => by (try dsimp only at hSw); first | exact hSw | exact hSw.1)) (by assumption) ?_; (try simp only [Act.put, nY, nX]))
 (refine' anyT_tk 2 rfl ?_; (try simp only [Act.put, nY, nX])); (refine' anyT_tk 3 rfl ?_; (try simp only [Act.put, nY, nX])); (refine' anyT_tk 4 rfl ?_; (try simp only [Act.put, nY, nX])); (refine' anyT_tk 5 rfl ?_; (try simp only [Act.put, nY, nX])); (refine' anyT_tk 6 rfl ?_; (try simp only [Act.put, nY, nX])); (refine' anyT_tk 7 rfl ?_; (try simp only [Act.put, nY, nX]))
 (refine anyT_sp 8 rfl (fun K' hK' => ?_); simp only [nY]; go_simp)
 have hB1d : Below w.heap.size w w1.drew := hB1.drew
 have hcut : IsWord w1.drew (if c = at_ then A else A.map (·.add (at_ * 2))) l.ifs.length (c - at_) ((ws.drop at_).take l.ifs.length) := IsWord.take ((HW.out.below (B := w.heap.size) hB1d rr).drop (by omega)) (by omega)
 refine (r8put_c l a _ _ _ _ (HL.out.below (B := w.heap.size) hB1d rr) hcut hfit hm HU.out ((HWU.out.drop _).take _) ((HWO.out.drop _).take _)).mono ?_
 rintro e w2 ⟨A2, n2, c2, rfl, hw2, hb2, _⟩
 have hz2 : w1.heap.size ≤ w2.heap.size := hb2.size
 have hB2 : Below w.heap.size w w2 := hB1d.trans (hb2.mono hB1.size)
 have hr2 := (hb2.block w.heap.size hl1).trans hHeld
 have hown2 := own_keep (w := w1.drew) HOWN1.out hb2 rr
 have HB2 := hI hB2; clear hB2 hb2 hB1d hcut hB1
 have HW2 := hI hw2; clear hw2
 have HOWN2 := hI hown2; clear hown2
 refine hK' _ _ ⟨.inr hr2, fun _ => ?_⟩
 clear hK' K' hHeld hr1
 (try simp only [Act.put, nY, nX])
 refine anyT_sp 9 rfl (fun K' hK' => ?_)
 rw [if_pos (by rfl)]
 have hlen2 : (putM l ((ws.drop at_).take l.ifs.length)).length = l.outs.length := by simp [putM]
 have hn2 : n2 = l.outs.length := by rw [← hlen2]; exact HW2.out.len.symm
 refine upon_append_snd w2 (.tmp 17) (.tmp 25) rfl Wb.heap.size v1 (0 + at_) _ (by rfl) HOWN2.out A2 n2 c2 _ (by rfl) HW2.out (by omega) (by omega) ?_
 intro v3 w3 hown3 hg3 _
 have hB3 : Below w.heap.size w w3 := HB2.out.grown hg3 HB2.out.size (fun k hk => by have := (HOWN2.out.lt k hk).1; omega)
 have hr3 := (hg3.block w.heap.size (by omega) (fun e => by have := (HOWN2.out.lt _ e.symm).1; omega)).trans hr2
 have hz3 := hg3.size
 refine hK' _ _ ⟨.inr hr3, fun _ => ?_⟩
 clear hK' K' hg3
 have HOWN3 := hI hown3; clear hown3
 (try simp only [Act.put, nY, nX])
 (refine anyT_sp 10 rfl (fun K' hK' => ?_); simp only [nY]; go_simp)
 refine hK' _ _ ⟨.inl (by kernel_rfl), fun _ => anyT_done (by kernel_rfl) ?_ _⟩
 clear hK' K'
 have HN2 := hI hn2; clear hn2
 have HLEN2 := hI hlen2; clear hlen2
 have hn2' : n2 ≤ 64 := by have := HN2.out; omega
 generalize (if c = at_ then A else A.map (·.add (at_ * 2))) = A5
 go_wp2_with (at_builtin; refine append_snd rfl (.tmp 27) (.tmp 32) rfl Wb.heap.size v3 (0 + at_ + n2) _ rfl HOWN3.out (if c = at_ + l.ifs.length then A else A.map (·.add ((at_ + l.ifs.length) * 2))) (n - (at_ + l.ifs.length)) (c - (at_ + l.ifs.length)) (ws.drop (at_ + l.ifs.length)) rfl (IsWord.drop (HW.out.below hB3 rr) hat) (by omega) (by omega) ?_; intro v4 w4 hown4 hg4 _)
 all_goals
  have hB4 : Below w.heap.size w w4 := hB3.grown hg4 hB3.size (fun k hk => by have := (HOWN3.out.lt k hk).1; omega)
  go_ret
  exact RetWord.of_own rfl hown4 hB4 hBb.size
end Go.Proofs.YtcpcojgmmpnkoaaGreatDoor
namespace Go.Proofs.YtcpcojgmmpnkoaaGreatDoor
open Go.RowKit Go.Shelf
attribute [local go_sem] Oper.semAt_some
theorem cond_false {l : LawD} {ws : List Snd} {at_ j : Nat} (hj : j < l.ifs.length) (h : fsat (ws.getD (at_ + j) (0, 0)).1 (ws.getD (at_ + j) (0, 0)).2 (l.ifs.getD j (0, 0)).1 (l.ifs.getD j (0, 0)).2 = false) : hitM l ws at_ = false := by
 have hcd : condM l ws at_ = false := by
  unfold condM
  apply Bool.eq_false_iff.2
  intro h'
  have := List.all_eq_true.1 h' j (List.mem_range.2 hj)
  rw [h] at this; cases this
 unfold hitM; rw [hcd, Bool.and_false, Bool.false_and]
theorem r8Hit_c (l : LawD) (a : LawA) (A : Option Addr) (n c : Nat) (ws : List Snd) (at_ : Nat) (w : World) (hl : LawAt w l a) (hw : IsWord w A n c ws) (hu : LawU l) (hwu : WordU ws) (hn : n ≤ 4000) (hat : at_ ≤ 4000) (hk : l.ifs.length ≤ 64) :
  Calls Tryz.prog 209 #[lawV l a, .slice A n c, .int .i64 at_] w fun e w' => e = .returned (.bool (hitM l ws at_)) ∧ Below w.heap.size w w' := by
 have HWL : Hid (ws.length = n) := hw.len
 have HL := hI hl; clear hl
 have HW := hI hw; clear hw
 have HU := hI hu; clear hu
 have HWU := hI hwu; clear hwu
 obtain ⟨Wb, hWb, hrb, hlb, hBb, hzb⟩ := law_box w l a
 obtain ⟨d0, d1, d2, d3⟩ := law_reads hrb
 have HRB := hI hrb; clear hrb
 have HLB := hI hlb; clear hlb
 have hl0 := HLB.out
 have b1 : decide ((at_ : Int) < 0) = false := by simp
 go_enter Tryz.func209, Tryz.ntmps209
 by_cases hfit : at_ + l.ifs.length ≤ n
 case neg =>
  have b2 : decide ((n : Int) < (at_ : Int) + (l.ifs.length : Int)) = true := by simp; omega
  have hr : hitM l ws at_ = false := by unfold hitM; rw [show decide (at_ + l.ifs.length ≤ ws.length) = false by rw [HWL.out]; simpa using hfit]; rfl
  have HR := hI hr; clear hr
  go_wp2
  clear hWb
  go_ret
  exact ⟨by rw [HR.out]; rfl, hBb⟩
 case pos =>
  have b2 : decide ((n : Int) < (at_ : Int) + (l.ifs.length : Int)) = false := by simp; omega
  have hr : hitM l ws at_ = (condM l ws at_ && fitM l ws at_) := by unfold hitM; rw [show decide (at_ + l.ifs.length ≤ ws.length) = true by rw [HWL.out]; simpa using hfit, Bool.true_and]
  have HR := hI hr; clear hr
  go_wp2
  clear hWb d0 d1 d2 d3 b1 b2
  go_loopw [8] (fun i wr => ∃ j : Nat, j ≤ l.ifs.length ∧ i = .int .i64 j ∧ Hid ((List.range j).all (fun j => fsat (ws.getD (at_ + j) (0, 0)).1 (ws.getD (at_ + j) (0, 0)).2 (l.ifs.getD j (0, 0)).1 (l.ifs.getD j (0, 0)).2) = true) ∧ Below Wb.heap.size Wb wr) (fun i _ => l.ifs.length - (intOf i).toNat)
  case atStart => exact ⟨0, Nat.zero_le _, rfl, rfl, Below.refl _ _⟩
  case round =>
   obtain ⟨j, hj, rfl, hall, hB⟩ := hrel
   have hBs := hB.size
   have hr1 := (hB.block _ HLB.out).trans HRB.out
   obtain ⟨d0, d1, d2, d3⟩ := law_reads hr1
   have hB0 : Below w.heap.size w wr := hBb.trans (hB.mono hBb.size)
   have H1 := hI hr1; clear hr1
   by_cases hlt : j < l.ifs.length
   ·obtain ⟨bi, oi, p, q, hAi, hbil, hcx, hi0, hi1⟩ := (HL.out.2.2.1.below hB0 rr).at_ hlt
    obtain ⟨bw, ow, p', q', rfl, hbwl, hwx, hw0, hw1⟩ := (HW.out.below hB0 rr).at_ (k := at_ + j) (by omega)
    have hfs1 : fsat (ws.getD (at_ + j) (0, 0)).1 (ws.getD (at_ + j) (0, 0)).2 (l.ifs.getD j (0, 0)).1 (l.ifs.getD j (0, 0)).2 = fsat p' q' p q := by rw [getD_of hwx, getD_of hcx]
    have HFS := hI hfs1
    have HU1 : Hid (SndU (p, q)) := HU.out.2.2.2.2.1 _ (List.mem_of_getElem? hcx)
    have HU2 : Hid (SndU (p', q')) := HWU.out _ (List.mem_of_getElem? hwx)
    rw [hAi] at d1
    clear hcx hwx hfs1 hAi
    have hjl' : (j : Int) < (l.ifs.length : Int) := by omega
    have hl1 : w.heap.size < wr.heap.size := lt_of_block H1.out
    have hsj : ((at_ : Int) + (j : Int)).toNat = at_ + j := by omega
    have hsj2 : (0 : Int) ≤ (at_ : Int) + (j : Int) := by omega
    have hsj3 : (at_ : Int) + (j : Int) < (n : Int) := by omega
    have hwr3 : IntKind.i64.wrap ((at_ : Int) + (j : Int)) = (at_ : Int) + (j : Int) := IntWalk.i64_in _ (by omega)
    go_wp2
    refine plain_region (fun W' => W'.cell? ⟨w.heap.size, 15, none⟩ = some (.slice (some ⟨bi, oi, none⟩) l.ifs.length a.ci) ∧ W'.cell? ⟨bw, ow + (at_ + j) * 2, none⟩ = some (.int .u32 p') ∧ W'.cell? ⟨bw, ow + (at_ + j) * 2 + 1, none⟩ = some (.int .u32 q') ∧
     W'.cell? ⟨bi, oi + j * 2, none⟩ = some (.int .u32 p) ∧ W'.cell? ⟨bi, oi + j * 2 + 1, none⟩ = some (.int .u32 q)) (by kernel_rfl) ⟨d1, hw0, hw1, hi0, hi1⟩ (fun hHeld => ?_)
    (refine' anyT_tk 0 rfl ?_; (try simp only [Act.put, nY, nX])); (refine' anyT_tk 1 rfl ?_; (try simp only [Act.put, nY, nX])); (refine' anyT_tk 2 rfl ?_; (try simp only [Act.put, nY, nX])); (refine' anyT_tk 3 rfl ?_; (try simp only [Act.put, nY, nX])); (refine' anyT_tk 4 rfl ?_; (try simp only [Act.put, nY, nX])); (refine' anyT_tk 5 rfl ?_; (try simp only [Act.put, nY, nX])); (refine' anyT_tk 6 rfl ?_; (try simp only [Act.put, nY, nX])); (refine' anyT_tk 7 rfl ?_; (try simp only [Act.put, nY, nX])); (refine' anyT_tk 8 rfl ?_; (try simp only [Act.put, nY, nX])); (refine' anyT_tk 9 rfl ?_; (try simp only [Act.put, nY, nX])); (refine' anyT_tk 10 rfl ?_; (try simp only [Act.put, nY, nX]))
    (refine anyT_sp 11 rfl (fun K' hK' => ?_); simp only [nY]; go_simp)
    refine (r1Sat_c p' q' p q _ HU2.out.1 HU2.out.2 HU1.out.1 HU1.out.2).mono ?_
    rintro e w2 ⟨rfl, hb2'⟩
    have hb2 : Below wr.heap.size wr w2 := (Below.refl wr.heap.size wr).drew.trans hb2'
    have hB2 : Below Wb.heap.size Wb w2 := hB.trans (hb2.mono hBs)
    have hS2 := (show _ ∧ _ ∧ _ ∧ _ ∧ _ from ⟨(hb2.cell (p := ⟨w.heap.size, 15, none⟩) hl1).trans d1, (hb2.cell (p := ⟨bw, ow + (at_ + j) * 2, none⟩) hbwl).trans hw0, (hb2.cell (p := ⟨bw, ow + (at_ + j) * 2 + 1, none⟩) hbwl).trans hw1, (hb2.cell (p := ⟨bi, oi + j * 2, none⟩) hbil).trans hi0, (hb2.cell (p := ⟨bi, oi + j * 2 + 1, none⟩) hbil).trans hi1⟩)
    refine hK' _ _ ⟨.inr hS2, fun _ => ?_⟩
    clear hK' K' hb2 hb2' hHeld hS2 d0 d1 d2 d3 hw0 hw1 hi0 hi1
    (try simp only [Act.put, nY, nX])
    (refine anyT_sp 12 rfl (fun K' hK' => ?_); simp only [nY]; go_simp)
    refine hK' _ _ ⟨.inl (by kernel_rfl), fun _ => anyT_done (by kernel_rfl) ?_ _⟩
    clear hK' K'
    cases hff : fsat p' q' p q with
    | true =>
     have HG : Hid ((List.range (j + 1)).all (fun j => fsat (ws.getD (at_ + j) (0, 0)).1 (ws.getD (at_ + j) (0, 0)).2 (l.ifs.getD j (0, 0)).1 (l.ifs.getD j (0, 0)).2) = true) := by
      show _ = _
      rw [List.range_succ, List.all_append, hall.out]
      simp only [List.all_cons, List.all_nil, Bool.and_true, Bool.true_and]
      rw [HFS.out, hff]
     clear hff
     go_wp2
     go_roundw
     case rel => exact ⟨j + 1, by omega, by go_num, HG, hB2⟩
     case measure => simp [intOf]; omega
    | false =>
     have hnh : hitM l ws at_ = false := cond_false hlt (by rw [HFS.out, hff])
     have HNH := hI hnh; clear hff hnh
     go_wp2
     go_ret
     exact ⟨by rw [HNH.out]; rfl, hBb.trans (hB2.mono hBb.size)⟩
   ·obtain rfl : j = l.ifs.length := by omega
    have hcd : condM l ws at_ = true := hall.out
    have HC := hI hcd; clear hcd hall
    clear d0 d1 d2 d3
    have hpl := law_left H1.out
    obtain ⟨_, p1, p2, p3, p4, p5, p6, p7, q1, q2, q3, q4, q5, q6, q7, _, _, _⟩ := law_cells H1.out
    clear q1 q2 q3 q4 q5 q6 q7 hpl
    go_wp2_with fail
    clear p1 p2 p3 p4 p5 p6 p7
    refine (r6Begins_c l.left.1 l.left.2 a.Al a.cl A n c ws at_ wr (HL.out.1.below hB0 rr) (HW.out.below hB0 rr) HU.out.1 HU.out.2.1 HWU.out).mono ?_
    rintro e w2 ⟨A2, c2, rfl, hint2, hb2⟩
    have hB2 : Below w.heap.size w w2 := hB0.trans (hb2.mono hB0.size)
    have h2 := (hb2.block _ (lt_of_block H1.out)).trans H1.out
    clear hb2 hint2
    have H2 := hI h2
    obtain ⟨_, p1, p2, p3, p4, p5, p6, p7, q1, q2, q3, q4, q5, q6, q7, _, _, _⟩ := law_cells h2
    clear p1 p2 p3 p4 p5 p6 p7 h2
    have hwr3 : IntKind.i64.wrap ((at_ : Int) + (l.ifs.length : Int)) = (at_ : Int) + (l.ifs.length : Int) := IntWalk.i64_in _ (by omega)
    go_wp2_with fail
    clear q1 q2 q3 q4 q5 q6 q7
    refine (r6Ends_c l.right.1 l.right.2 a.Ar a.cr A n c ws ((at_ : Int) + (l.ifs.length : Int)) w2 (HL.out.2.1.below hB2 rr) (HW.out.below hB2 rr) HU.out.2.2.1 HU.out.2.2.2.1 HWU.out).mono ?_
    rintro e w3 ⟨A3, c3, rfl, hint3, hb3⟩
    have hB3 : Below w.heap.size w w3 := hB2.trans (hb3.mono hB2.size)
    clear hb3 hint3
    have hfm : fitM l ws at_ = (decide (0 < (beginsM l.left ws at_).length) && decide (0 < (endsM l.right ws ((at_ : Int) + l.ifs.length)).length)) := by
     unfold fitM
     congr 1
     cases beginsM l.left ws at_ <;> rfl
    have HFM := hI hfm; clear hfm
    obtain ⟨x, hx⟩ : ∃ x, x = (beginsM (l.left.1, l.left.2) ws at_).length := ⟨_, rfl⟩
    obtain ⟨y, hy⟩ : ∃ y, y = (endsM (l.right.1, l.right.2) ws ((at_ : Int) + l.ifs.length)).length := ⟨_, rfl⟩
    have hfin : hitM l ws at_ = (decide (0 < x) && decide (0 < y)) := by rw [HR.out, HC.out, HFM.out, Bool.true_and, hx, hy]
    rw [← hx, ← hy]
    have HFIN := hI hfin; clear hfin hx hy
    go_wp2
    all_goals
     go_ret
     refine ⟨?_, hB3⟩
     rw [HFIN.out]
     rename_i h0
     simp [h0]
end Go.Proofs.YtcpcojgmmpnkoaaGreatDoor

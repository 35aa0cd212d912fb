/-
  derive.Split.
-/
import Derived.Test.YtlgliddhideflaaGreatDoorG32
set_option linter.all false
set_option maxRecDepth 100000
set_option maxHeartbeats 4000000
namespace Go.Proofs.YtlgliddhideflaaGreatDoor
open Go.RowKit Go.Shelf
def formK (x : List (List Snd)) (k : Nat) : List Snd := (x[min k (x.length - 1)]?).getD []
def diffM (x y : List (List Snd)) : Option Nat := (List.range (max x.length y.length)).find? fun k => !decide (formK x k = formK y k)
def splitM (a b : List LawD) (ws : List Snd) : Int × Bool × Int :=
 if lawsE a ≠ 0 then (0, false, lawsE a) else if lawsE b ≠ 0 then (0, false, lawsE b) else if (formsE a ws).1 ≠ 0 then (0, false, (formsE a ws).1) else if (formsE b ws).1 ≠ 0 then (0, false, (formsE b ws).1)
 else match diffM (formsE a ws).2 (formsE b ws).2 with
  | some k => (k, true, 0)
  | none => (0, false, 0)
theorem find_range_some {p : Nat → Bool} {n k : Nat} (hk : k < n) (h1 : ∀ j, j < k → p j = false) (h2 : p k = true) : (List.range n).find? p = some k := by
 rw [List.find?_range_eq_some]
 exact ⟨h2, List.mem_range.2 hk, fun j hj => by rw [h1 j hj]; rfl⟩
theorem find_range_none {p : Nat → Bool} {n : Nat} (h1 : ∀ j, j < n → p j = false) : (List.range n).find? p = none := by
 rw [List.find?_eq_none]
 intro x hx
 rw [h1 x (List.mem_range.1 hx)]
 simp
theorem formsE_pos {ls : List LawD} {ws : List Snd} (h : (formsE ls ws).1 = 0) : ∃ m, (formsE ls ws).2.length = m + 1 := by
 unfold formsE at h ⊢
 by_cases h0 : chkM ls [ws] = 0
 ·rw [if_neg (by simpa using h0)] at h ⊢
  by_cases h1 : (formsM ls ws).1 = 0
  ·rw [if_neg (by simpa using h1)]
   obtain ⟨r, hr⟩ := formsM_pos ls ws
   rw [hr]; exact ⟨r.length, rfl⟩
  ·rw [if_pos h1] at h; exact absurd h h1
 ·rw [if_pos h0] at h; exact absurd h h0
theorem split_c (A : Option Addr) (n c : Nat) (xs : List LawR) (A' : Option Addr) (n' c' : Nat) (ys : List LawR) (Aw : Option Addr) (nw cw : Nat) (ws : List Snd) (w : World) (hx : IsLaws w A n c xs) (hy : IsLaws w A' n' c' ys) (hw : IsWord w Aw nw cw ws) (hT : TabOK w) :
  Calls Tryz.prog 27 #[.slice A n c, .slice A' n' c', .slice Aw nw cw] w fun e w' =>
   e = .returned (.tuple #[.int .i64 (splitM (lawsD xs) (lawsD ys) ws).1, .bool (splitM (lawsD xs) (lawsD ys) ws).2.1, .int .i64 (splitM (lawsD xs) (lawsD ys) ws).2.2]) ∧ Below w.heap.size w w' := by
 have HX := hI hx; clear hx
 have HY := hI hy; clear hy
 have HW := hI hw; clear hw
 have HT := hI hT; clear hT
 obtain ⟨r, hr⟩ : ∃ r, r = splitM (lawsD xs) (lawsD ys) ws := ⟨_, rfl⟩
 rw [← hr]
 have HR := hI hr; clear hr
 obtain ⟨ea, hea⟩ : ∃ ea, ea = lawsE (lawsD xs) := ⟨_, rfl⟩
 have HEA := hI hea; clear hea
 obtain ⟨eb, heb⟩ : ∃ eb, eb = lawsE (lawsD ys) := ⟨_, rfl⟩
 have HEB := hI heb; clear heb
 have HC1 := hI (dCheck_c A n c xs w HX.out)
 by_cases h0 : ea = 0
 case neg =>
  have h1 : (ea != 0) = true := by simpa using h0
  have h2 : (ea == 0) = false := by simpa using h0
  have HM : Hid (r = (0, false, ea)) := by show r = _; rw [HR.out]; unfold splitM; rw [← HEA.out, if_pos h0]
  clear h0
  go_enter Tryz.func27, Tryz.ntmps27
  go_wp2_with (go_at_call 18; refine HC1.out.mono ?_; rintro e w1 ⟨rfl, hb1⟩; rw [← HEA.out])
  go_ret3
  exact ⟨by rw [HM.out]; rfl, hb1⟩
 have h1 : (ea == 0) = true := by simpa using h0
 have HA0 := hI h0
 by_cases h2 : eb = 0
 case neg =>
  have h3 : (eb != 0) = true := by simpa using h2
  have HM : Hid (r = (0, false, eb)) := by show r = _; rw [HR.out]; unfold splitM; rw [← HEA.out, if_neg (by simpa using HA0.out), ← HEB.out, if_pos h2]
  clear h0 h2
  go_enter Tryz.func27, Tryz.ntmps27
  go_wp2_with fail
  refine HC1.out.mono ?_
  rintro e w1 ⟨rfl, hb1⟩
  rw [← HEA.out]
  go_wp2_with fail
  refine (dCheck_c A' n' c' ys w1 (HY.out.below hb1 rr)).mono ?_
  rintro e w2 ⟨rfl, hb2⟩
  rw [← HEB.out]
  go_wp2
  go_ret3
  exact ⟨by rw [HM.out]; rfl, hb1.trans (hb2.mono hb1.size)⟩
 have h3 : (eb != 0) = false := by simpa using h2
 have HB0 := hI h2
 clear h0 h2
 go_enter Tryz.func27, Tryz.ntmps27
 go_wp2_with fail
 refine HC1.out.mono ?_
 rintro e w1 ⟨rfl, hb1⟩
 rw [← HEA.out]
 go_wp2_with fail
 refine (dCheck_c A' n' c' ys w1 (HY.out.below hb1 rr)).mono ?_
 rintro e w2 ⟨rfl, hb2⟩
 rw [← HEB.out]
 have hB2 := hb1.trans (hb2.mono hb1.size)
 have HB2 := hI hB2
 clear hb1 hb2 hB2
 go_wp2_with fail
 refine (forms_all A n c xs Aw nw cw ws w2 (HX.out.below HB2.out rr) (HW.out.below HB2.out rr) (HT.out.below HB2.out rr)).mono ?_
 rintro e w3 ⟨A3, n3, c3, rfl, hw3, hb3⟩
 have hB3 := HB2.out.trans (hb3.mono HB2.out.size)
 have HB3 := hI hB3
 have HW3 := hI hw3
 clear hb3 hB3 hw3 h1 h3
 obtain ⟨fa, hfa⟩ : ∃ fa, fa = formsE (lawsD xs) ws := ⟨_, rfl⟩
 rw [← hfa] at HW3 ⊢
 have HFA := hI hfa; clear hfa
 by_cases h4 : fa.1 = 0
 case neg =>
  have h5 : (fa.1 != 0) = true := by simpa using h4
  have HM : Hid (r = (0, false, fa.1)) := by show r = _; rw [HR.out]; unfold splitM; rw [← HEA.out, if_neg (by simpa using HA0.out), ← HEB.out, if_neg (by simpa using HB0.out), ← HFA.out, if_pos h4]
  clear h4
  go_wp2
  go_ret3
  exact ⟨by rw [HM.out]; rfl, HB3.out⟩
 have h5 : (fa.1 != 0) = false := by simpa using h4
 have HF0 := hI h4; clear h4
 go_wp2_with fail
 refine (forms_all A' n' c' ys Aw nw cw ws w3 (HY.out.below HB3.out rr) (HW.out.below HB3.out rr) (HT.out.below HB3.out rr)).mono ?_
 rintro e w4 ⟨A4, n4, c4, rfl, hw4, hb4⟩
 have hB4 := HB3.out.trans (hb4.mono HB3.out.size)
 have HB4 := hI hB4
 have HW3' := hI (HW3.out.below hb4 rr)
 have HW4 := hI hw4
 clear hb4 hB4 hw4 h5 HW3
 obtain ⟨fb, hfb⟩ : ∃ fb, fb = formsE (lawsD ys) ws := ⟨_, rfl⟩
 rw [← hfb] at HW4 ⊢
 have HFB := hI hfb; clear hfb
 by_cases h6 : fb.1 = 0
 case neg =>
  have h7 : (fb.1 != 0) = true := by simpa using h6
  have HM : Hid (r = (0, false, fb.1)) := by show r = _; rw [HR.out]; unfold splitM; rw [← HEA.out, if_neg (by simpa using HA0.out), ← HEB.out, if_neg (by simpa using HB0.out), ← HFA.out, if_neg (by simpa using HF0.out), ← HFB.out, if_pos h6]
  clear h6
  go_wp2
  go_ret3
  exact ⟨by rw [HM.out]; rfl, HB4.out⟩
 have h7 : (fb.1 != 0) = false := by simpa using h6
 have HG0 := hI h6; clear h6
 have HM : Hid (r = match diffM fa.2 fb.2 with | some k => ((k : Int), true, (0 : Int)) | none => (0, false, 0)) := by
  show r = _; rw [HR.out]; unfold splitM; rw [← HEA.out, if_neg (by simpa using HA0.out), ← HEB.out, if_neg (by simpa using HB0.out), ← HFA.out, if_neg (by simpa using HF0.out), ← HFB.out, if_neg (by simpa using HG0.out)]
 obtain ⟨ma, hma⟩ := formsE_pos (by rw [← HFA.out]; exact HF0.out)
 obtain ⟨mb, hmb⟩ := formsE_pos (by rw [← HFB.out]; exact HG0.out)
 rw [← HFA.out] at hma
 rw [← HFB.out] at hmb
 obtain rfl : n3 = ma + 1 := by have := HW3'.out.len; omega
 obtain rfl : n4 = mb + 1 := by have := HW4.out.len; omega
 have hmx := HW3'.out.max
 have hmy := HW4.out.max
 have HMA := hI hma; clear hma
 have HMB := hI hmb; clear hmb
 go_wp2
 obtain ⟨M, hM⟩ : ∃ M : Nat, max (ma : Int) (mb : Int) = M := ⟨max ma mb, by omega⟩
 rw [hM]
 have hMa : ma ≤ M := by omega
 have hMb : mb ≤ M := by omega
 have hM2 : M = ma ∨ M = mb := by omega
 clear hM
 go_loopw [12, 45] (fun _ i wr => ∃ k : Nat, k ≤ M + 1 ∧ i = .int .i64 k ∧ Hid (∀ j, j < k → decide (formK fa.2 j = formK fb.2 j) = true) ∧ Below w4.heap.size w4 wr) (fun _ i _ => M + 1 - (intOf i).toNat)
 case atStart => exact ⟨0, Nat.zero_le _, rfl, (fun j hj => by omega), Below.refl _ _⟩
 case round =>
  obtain ⟨k, hk, rfl, hall, hB⟩ := hrel
  have hBs := hB.size
  by_cases hlt : k < M + 1
  ·obtain ⟨i, hi⟩ : ∃ i, i = min k ma := ⟨_, rfl⟩
   obtain ⟨j, hj⟩ : ∃ j, j = min k mb := ⟨_, rfl⟩
   obtain ⟨b, off, A5, n5, c5, x5, hA5, hb5, hc5, hx5, hw5⟩ := (HW3'.out.below hB rr).at_ (k := i) (by omega)
   obtain ⟨b', off', A6, n6, c6, x6, hA6, hb6, hc6, hx6, hw6⟩ := (HW4.out.below hB rr).at_ (k := j) (by omega)
   subst hA5 hA6
   have hfa : formK fa.2 k = x5 := by unfold formK; rw [HMA.out, Nat.add_sub_cancel, ← hi, hx5]; rfl
   have hfb : formK fb.2 k = x6 := by unfold formK; rw [HMB.out, Nat.add_sub_cancel, ← hj, hx6]; rfl
   have HFa := hI hfa; clear hfa
   have HFb := hI hfb; clear hfb
   have HW5 := hI hw5; clear hw5 hx5
   have HW6 := hI hw6; clear hw6 hx6
   have HI := hI hi
   have HJ := hI hj
   have e1 : min (k : Int) (ma : Int) = (i : Int) := by omega
   have e2 : min (k : Int) (mb : Int) = (j : Int) := by omega
   have e3 : (i : Int) < (ma : Int) + 1 := by omega
   have e4 : (j : Int) < (mb : Int) + 1 := by omega
   clear hi hj
   go_wp2
   have ha63 : (ma : Int) + 1 ≤ 9223372036854775807 := by omega
   have hb63 : (mb : Int) + 1 ≤ 9223372036854775807 := by omega
   have hwa : IntKind.i64.wrap (ma : Int) = ma := IntWalk.i64_in _ (by omega)
   have hwb : IntKind.i64.wrap (mb : Int) = mb := IntWalk.i64_in _ (by omega)
   refine plain_region (fun W' => W'.cell? ⟨b, off + i, none⟩ = some (.slice A5 n5 c5) ∧ W'.cell? ⟨b', off' + j, none⟩ = some (.slice A6 n6 c6)) (by kernel_rfl) ⟨hc5, hc6⟩ (fun hHeld => ?_)
   (refine' anyT_tk 0 rfl ?_; (try simp only [Act.put, nY, nX])); (refine' anyT_tk 1 rfl ?_; (try simp only [Act.put, nY, nX])); (refine' anyT_tk 2 rfl ?_; (try simp only [Act.put, nY, nX])); (refine' anyT_tk 3 rfl ?_; (try simp only [Act.put, nY, nX])); (refine' anyT_tk 4 rfl ?_; (try simp only [Act.put, nY, nX])); (refine' anyT_tk 5 rfl ?_; (try simp only [Act.put, nY, nX])); (refine' anyT_tk 6 rfl ?_; (try simp only [Act.put, nY, nX])); (refine' anyT_tk 7 rfl ?_; (try simp only [Act.put, nY, nX])); (refine' anyT_tk 8 rfl ?_; (try simp only [Act.put, nY, nX])); (refine' anyT_tk 9 rfl ?_; (try simp only [Act.put, nY, nX])); (refine' anyT_tk 10 rfl ?_; (try simp only [Act.put, nY, nX])); (refine' anyT_tk 11 rfl ?_; (try simp only [Act.put, nY, nX])); (refine' anyT_tk 12 rfl ?_; (try simp only [Act.put, nY, nX])); (refine' anyT_tk 13 rfl ?_; (try simp only [Act.put, nY, nX])); (refine' anyT_tk 14 rfl ?_; (try simp only [Act.put, nY, nX])); (refine' anyT_tk 15 rfl ?_; (try simp only [Act.put, nY, nX]))
   clear hwa hwb ha63 hb63 e1 e2 e3 e4 hc5 hc6
   (refine anyT_sp 16 rfl (fun K' hK' => ?_); simp only [nY]; go_simp)
   refine (wEqual_c A5 A6 n5 n6 c5 c6 x5 x6 _ (HW5.out.below (B := wr.heap.size) ((Below.refl wr.heap.size wr).drew) rr) (HW6.out.below (B := wr.heap.size) ((Below.refl wr.heap.size wr).drew) rr)).mono ?_
   rintro e w5 ⟨rfl, hb5'⟩
   have hb5 : Below wr.heap.size wr w5 := (Below.refl wr.heap.size wr).drew.trans hb5'
   obtain ⟨q1, q2⟩ := hHeld
   refine hK' _ _ ⟨.inr ⟨(hb5.cell (p := ⟨b, off + i, none⟩) (by assumption)).trans q1, (hb5.cell (p := ⟨b', off' + j, none⟩) (by assumption)).trans q2⟩, fun _ => ?_⟩
   clear hK' K' hb5' q1 q2
   have hB5 : Below w4.heap.size w4 w5 := hB.trans (hb5.mono hBs)
   clear hb5
   (try simp only [Act.put, nY, nX])
   (refine anyT_sp 17 rfl (fun K' hK' => ?_); simp only [nY]; go_simp)
   refine hK' _ _ ⟨.inl (by kernel_rfl), fun _ => anyT_done (by kernel_rfl) ?_ _⟩
   clear hK' K'
   obtain ⟨d, hd⟩ : ∃ d, d = decide (x5 = x6) := ⟨_, rfl⟩
   rw [← hd]
   have HDD := hI hd; clear hd
   cases d with
   | true =>
    go_wp2
    go_roundw
    case rel =>
     refine ⟨k + 1, by omega, by go_num, ?_, hB5⟩
     intro j' hj'
     rcases Nat.lt_or_ge j' k with h | h
     ·exact hall.out j' h
     ·obtain rfl : j' = k := by omega
      rw [HFa.out, HFb.out]; exact HDD.out.symm
    case measure => simp [intOf]; omega
   | false =>
    have hd : diffM fa.2 fb.2 = some k := by
     unfold diffM
     refine find_range_some ?_ (fun j' hj' => ?_) ?_
     ·rw [HMA.out, HMB.out]; have := hM2; omega
     ·rw [hall.out j' hj']; rfl
     ·rw [HFa.out, HFb.out, ← HDD.out]; rfl
    have HD := hI hd; clear hd
    go_wp2
    go_ret3
    exact ⟨by rw [HM.out, HD.out]; rfl, HB4.out.trans (hB5.mono HB4.out.size)⟩
  ·obtain rfl : k = M + 1 := by omega
   have hd : diffM fa.2 fb.2 = none := by
    unfold diffM
    refine find_range_none fun j' hj' => ?_
    rw [HMA.out, HMB.out] at hj'
    rw [hall.out j' (by omega)]; rfl
   have HD := hI hd; clear hd
   go_wp2
   go_ret3
   exact ⟨by rw [HM.out, HD.out]; rfl, HB4.out.trans (hB.mono HB4.out.size)⟩
end Go.Proofs.YtlgliddhideflaaGreatDoor

/-
  ablautref29: Equal, EqualRows; ablautlaw29: same, equal.
-/
import Derived.Test.YtlgliddhideflaaGreatDoorG62
set_option linter.all false
set_option maxRecDepth 100000
set_option maxHeartbeats 4000000
namespace Go.Proofs.YtlgliddhideflaaGreatDoor
open Go.RowKit Go.Shelf
theorem r29Equal_c (a b : FormR) (w : World) (ha : IsWord w a.p.1 a.p.2.1 a.p.2.2.1 a.p.2.2.2) (hb : IsWord w b.p.1 b.p.2.1 b.p.2.2.1 b.p.2.2.2) :
  Calls Tryz.prog 108 #[formV a, formV b] w fun e w' => e = .returned (.bool (decide (a.data = b.data))) ∧ Below w.heap.size w w' := by
 obtain ⟨h, A, n, c, ws⟩ := a
 obtain ⟨h', A', n', c', ws'⟩ := b
 have HA : Hid (IsWord w A n c ws) := ha
 have HB : Hid (IsWord w A' n' c' ws') := hb
 clear ha hb
 show Calls Tryz.prog 108 #[.agg #[.bool h, .slice A n c], .agg #[.bool h', .slice A' n' c']] w fun e w' => e = .returned (.bool (decide ((h, ws) = (h', ws')))) ∧ Below w.heap.size w w'
 go_enter Tryz.func108, Tryz.ntmps108
 by_cases hh : h = h'
 ·subst hh
  have HD : Hid (decide ((h, ws) = (h, ws')) = decide (ws = ws')) := decide_eq_decide.2 (by simp)
  have he : (h == h) = true := by simp
  go_wp2_with fail
  have hb9 : Below w.heap.size w ((w.alloc (.cells #[.bool h, .slice A n c] 57)).alloc (.cells #[.bool h, .slice A' n' c'] 57)) := bel
  refine (rEqual_c A A' n n' c c' ws ws' _ (HA.out.below hb9 rr) (HB.out.below hb9 rr)).mono ?_
  rintro e w3 ⟨rfl, hb3⟩
  go_wp2
  go_ret
  exact ⟨by rw [HD.out]; rfl, hb9.trans (hb3.mono hb9.size)⟩
 ·have HD : Hid (decide ((h, ws) = (h', ws')) = false) := decide_eq_false (fun e => hh (congrArg Prod.fst e))
  have he : (h == h') = false := by simpa using hh
  go_wp2
  go_ret
  exact ⟨by rw [HD.out]; rfl, bel⟩
theorem r29Rows_c (A A' : Option Addr) (n n' c c' : Nat) (l l' : List Frm) (w : World) (hx : IsForms w A n c l) (hy : IsForms w A' n' c' l') :
  Calls Tryz.prog 159 #[.slice A n c, .slice A' n' c'] w fun e w' => e = .returned (.bool (decide (l = l'))) ∧ Below w.heap.size w w' := by
 have hm := hx.max
 have hm' := hy.max
 have HX := hI hx; clear hx
 have HY := hI hy; clear hy
 by_cases hn : n = n'
 case neg =>
  have HF : Hid (decide (l = l') = false) := decide_eq_false fun e => hn (by rw [← HX.out.len, ← HY.out.len, e])
  have hne : ((n : Int) != (n' : Int)) = true := by simp; omega
  go_enter Tryz.func159, Tryz.ntmps159
  go_wp2
  go_ret
  exact ⟨by rw [HF.out]; rfl, bel⟩
 subst hn
 have hne : ((n : Int) != (n : Int)) = false := by simp
 go_enter Tryz.func159, Tryz.ntmps159
 go_wp2_with fail
 clear hne
 go_loopw [5] (fun vi wr => ∃ k : Nat, vi = .int .i64 k ∧ k ≤ n ∧ Hid (l.take k = l'.take k) ∧ Below w.heap.size w wr) (fun vi _ => n - (intOf vi).toNat)
 case atStart => exact ⟨0, rfl, Nat.zero_le _, by simp [Hid], Below.refl _ _⟩
 case round =>
  obtain ⟨k, rfl, hk, hall, hB⟩ := hrel
  have hBs := hB.size
  by_cases hlt : k < n
  ·have hk1 : (k : Int) < (n : Int) := by omega
   obtain ⟨b, off, h, A1, n1, c1, ws, rfl, hb, hc0, hc1, hlk, hws⟩ := (HX.out.below hB rr).at_ hlt
   obtain ⟨b', off', h', A2, n2, c2, ws', rfl, hb', hd0, hd1, hlk', hws'⟩ := (HY.out.below hB rr).at_ hlt
   have HW := hI hws; clear hws
   have HW' := hI hws'; clear hws'
   have HLK := hI hlk; clear hlk
   have HLK' := hI hlk'; clear hlk'
   go_wp2_with fail
   refine plain_region (fun W' => W'.cell? ⟨b, off + k * 2, none⟩ = some (.bool h) ∧ W'.cell? ⟨b, off + k * 2 + 1, none⟩ = some (.slice A1 n1 c1) ∧ W'.cell? ⟨b', off' + k * 2, none⟩ = some (.bool h') ∧ W'.cell? ⟨b', off' + k * 2 + 1, none⟩ = some (.slice A2 n2 c2)) (by kernel_rfl) ⟨hc0, hc1, hd0, hd1⟩ (fun hHeld => ?_)
   (refine' anyT_tk 0 rfl ?_; (try simp only [Act.put, nY, nX])); (refine' anyT_tk 1 rfl ?_; (try simp only [Act.put, nY, nX])); (refine' anyT_tk 2 rfl ?_; (try simp only [Act.put, nY, nX])); (refine' anyT_tk 3 rfl ?_; (try simp only [Act.put, nY, nX])); (refine' anyT_tk 4 rfl ?_; (try simp only [Act.put, nY, nX])); (refine' anyT_tk 5 rfl ?_; (try simp only [Act.put, nY, nX])); (refine' anyT_tk 6 rfl ?_; (try simp only [Act.put, nY, nX])); (refine' anyT_tk 7 rfl ?_; (try simp only [Act.put, nY, nX]))
   (refine anyT_sp 8 rfl (fun K' hK' => ?_); simp only [nY]; go_simp)
   have hd5 : Below wr.heap.size wr wr.drew := (Below.refl wr.heap.size wr).drew
   refine (r29Equal_c ⟨h, (A1, n1, c1, ws)⟩ ⟨h', (A2, n2, c2, ws')⟩ _ (HW.out.below hd5 rr) (HW'.out.below hd5 rr)).mono ?_
   rintro e w6 ⟨rfl, hb6'⟩
   have hb6 : Below wr.heap.size wr w6 := hd5.trans (hb6'.mono hd5.size)
   have hB6 := hB.trans (hb6.mono hBs)
   obtain ⟨d, hd⟩ : ∃ d, d = decide (FormR.data ⟨h, (A1, n1, c1, ws)⟩ = FormR.data ⟨h', (A2, n2, c2, ws')⟩) := ⟨_, rfl⟩
   rw [← hd]
   have HD : Hid (d = decide ((h, ws) = (h', ws'))) := hd
   clear hd
   refine hK' _ _ ⟨.inr ⟨(hb6.cell (p := ⟨b, off + k * 2, none⟩) hb).trans hc0, (hb6.cell (p := ⟨b, off + k * 2 + 1, none⟩) hb).trans hc1, (hb6.cell (p := ⟨b', off' + k * 2, none⟩) hb').trans hd0, (hb6.cell (p := ⟨b', off' + k * 2 + 1, none⟩) hb').trans hd1⟩, fun _ => ?_⟩
   clear hK' K' hHeld hd5 hb6' hb6
   (try simp only [Act.put, nY, nX])
   (refine anyT_sp 9 rfl (fun K' hK' => ?_); simp only [nY]; go_simp)
   refine hK' _ _ ⟨.inl (by kernel_rfl), fun _ => anyT_done (by kernel_rfl) ?_ _⟩
   clear hK' K'
   cases d
   ·have HF : Hid (decide (l = l') = false) := decide_eq_false fun e => by
     have h1 := HLK.out
     rw [e, HLK'.out] at h1
     exact of_decide_eq_false HD.out.symm (Option.some.inj h1).symm
    go_wp2
    go_ret
    exact ⟨by rw [HF.out]; rfl, hB6⟩
   ·have HN : Hid (l.take (k + 1) = l'.take (k + 1)) := by
     show _ = _
     rw [take_snoc' l k _ HLK.out, take_snoc' l' k _ HLK'.out, hall.out, of_decide_eq_true HD.out.symm]
    go_wp2
    go_roundw
    case rel => exact ⟨k + 1, by go_num, by omega, HN.out, hB6⟩
    case measure => simp [intOf]; omega
  ·have hk1 : ¬ ((k : Int) < (n : Int)) := by omega
   have HF : Hid (decide (l = l') = true) := by
    have := hall.out
    rw [List.take_of_length_le (by rw [HX.out.len]; omega), List.take_of_length_le (by rw [HY.out.len]; omega)] at this
    exact decide_eq_true this
   go_wp2
   go_ret
   exact ⟨by rw [HF.out]; rfl, hB⟩
theorem same29_c (A A' : Option Addr) (n n' c c' : Nat) (l l' : List (List Frm)) (w : World) (hx : IsPar w A n c l) (hy : IsPar w A' n' c' l') :
  Calls Tryz.prog 110 #[.slice A n c, .slice A' n' c'] w fun e w' => e = .returned (.bool (decide (l = l'))) ∧ Below w.heap.size w w' := by
 have hm := hx.max
 have hm' := hy.max
 have HX := hI hx; clear hx
 have HY := hI hy; clear hy
 by_cases hn : n = n'
 case neg =>
  have HF : Hid (decide (l = l') = false) := decide_eq_false fun e => hn (by rw [← HX.out.len, ← HY.out.len, e])
  have hne : ((n : Int) != (n' : Int)) = true := by simp; omega
  go_enter Tryz.func110, Tryz.ntmps110
  go_wp2
  go_ret
  exact ⟨by rw [HF.out]; rfl, bel⟩
 subst hn
 have hne : ((n : Int) != (n : Int)) = false := by simp
 go_enter Tryz.func110, Tryz.ntmps110
 go_wp2_with fail
 clear hne
 go_loopw [5] (fun vi wr => ∃ k : Nat, vi = .int .i64 k ∧ k ≤ n ∧ Hid (l.take k = l'.take k) ∧ Below w.heap.size w wr) (fun vi _ => n - (intOf vi).toNat)
 case atStart => exact ⟨0, rfl, Nat.zero_le _, by simp [Hid], Below.refl _ _⟩
 case round =>
  obtain ⟨k, rfl, hk, hall, hB⟩ := hrel
  have hBs := hB.size
  by_cases hlt : k < n
  ·have hk1 : (k : Int) < (n : Int) := by omega
   obtain ⟨b, off, A1, n1, c1, x, rfl, hb, hc0, hlk, hws⟩ := (HX.out.below hB rr).at_ hlt
   obtain ⟨b', off', A2, n2, c2, y, rfl, hb', hd0, hlk', hws'⟩ := (HY.out.below hB rr).at_ hlt
   have HW := hI hws; clear hws
   have HW' := hI hws'; clear hws'
   have HLK := hI hlk; clear hlk
   have HLK' := hI hlk'; clear hlk'
   go_wp2_with fail
   refine plain_region (fun W' => W'.cell? ⟨b, off + k, none⟩ = some (.slice A1 n1 c1) ∧ W'.cell? ⟨b', off' + k, none⟩ = some (.slice A2 n2 c2)) (by kernel_rfl) ⟨hc0, hd0⟩ (fun hHeld => ?_)
   (refine' anyT_tk 0 rfl ?_; (try simp only [Act.put, nY, nX])); (refine' anyT_tk 1 rfl ?_; (try simp only [Act.put, nY, nX])); (refine' anyT_tk 2 rfl ?_; (try simp only [Act.put, nY, nX])); (refine' anyT_tk 3 rfl ?_; (try simp only [Act.put, nY, nX])); (refine' anyT_tk 4 rfl ?_; (try simp only [Act.put, nY, nX])); (refine' anyT_tk 5 rfl ?_; (try simp only [Act.put, nY, nX])); (refine' anyT_tk 6 rfl ?_; (try simp only [Act.put, nY, nX])); (refine' anyT_tk 7 rfl ?_; (try simp only [Act.put, nY, nX]))
   (refine anyT_sp 8 rfl (fun K' hK' => ?_); simp only [nY]; go_simp)
   have hd5 : Below wr.heap.size wr wr.drew := (Below.refl wr.heap.size wr).drew
   refine (r29Rows_c A1 A2 n1 n2 c1 c2 x y _ (HW.out.below hd5 rr) (HW'.out.below hd5 rr)).mono ?_
   rintro e w6 ⟨rfl, hb6'⟩
   have hb6 : Below wr.heap.size wr w6 := hd5.trans (hb6'.mono hd5.size)
   have hB6 := hB.trans (hb6.mono hBs)
   obtain ⟨d, hd⟩ : ∃ d, d = decide (x = y) := ⟨_, rfl⟩
   rw [← hd]
   have HD : Hid (d = decide (x = y)) := hd
   clear hd
   refine hK' _ _ ⟨.inr ⟨(hb6.cell (p := ⟨b, off + k, none⟩) hb).trans hc0, (hb6.cell (p := ⟨b', off' + k, none⟩) hb').trans hd0⟩, fun _ => ?_⟩
   clear hK' K' hHeld hd5 hb6' hb6
   (try simp only [Act.put, nY, nX])
   (refine anyT_sp 9 rfl (fun K' hK' => ?_); simp only [nY]; go_simp)
   refine hK' _ _ ⟨.inl (by kernel_rfl), fun _ => anyT_done (by kernel_rfl) ?_ _⟩
   clear hK' K'
   cases d
   ·have HF : Hid (decide (l = l') = false) := decide_eq_false fun e => by
     have h1 := HLK.out
     rw [e, HLK'.out] at h1
     exact of_decide_eq_false HD.out.symm (Option.some.inj h1).symm
    go_wp2
    go_ret
    exact ⟨by rw [HF.out]; rfl, hB6⟩
   ·have HN : Hid (l.take (k + 1) = l'.take (k + 1)) := by
     show _ = _
     rw [take_snoc' l k _ HLK.out, take_snoc' l' k _ HLK'.out, hall.out, of_decide_eq_true HD.out.symm]
    go_wp2
    go_roundw
    case rel => exact ⟨k + 1, by go_num, by omega, HN.out, hB6⟩
    case measure => simp [intOf]; omega
  ·have hk1 : ¬ ((k : Int) < (n : Int)) := by omega
   have HF : Hid (decide (l = l') = true) := by
    have := hall.out
    rw [List.take_of_length_le (by rw [HX.out.len]; omega), List.take_of_length_le (by rw [HY.out.len]; omega)] at this
    exact decide_eq_true this
   go_wp2
   go_ret
   exact ⟨by rw [HF.out]; rfl, hB⟩
theorem equal29_c (A A' : Option Addr) (n n' c c' : Nat) (xs ys : List Int) (w : World) (hx : IsInts w A n c xs) (hy : IsInts w A' n' c' ys) :
  Calls Tryz.prog 109 #[.slice A n c, .slice A' n' c'] w fun e w' => e = .returned (.bool (decide (xs = ys))) ∧ Below w.heap.size w w' := by
 have hm := hx.max
 by_cases hn : n = n'
 ·subst hn
  have HX := hI hx; clear hx
  have HY := hI hy; clear hy
  go_enter Tryz.func109, Tryz.ntmps109
  go_wp2
  go_loopw [5] (fun i wr => ∃ k : Nat, k ≤ n ∧ i = .int .i64 k ∧ xs.take k = ys.take k ∧ Below w.heap.size w wr) (fun i _ => n - (intOf i).toNat)
  case atStart => exact ⟨0, Nat.zero_le _, rfl, by simp, bel⟩
  case round =>
   obtain ⟨k, hk, rfl, hall, hB⟩ := hrel
   have HA := hI hall; clear hall
   by_cases hlt : k < n
   ·obtain ⟨b, off, p, rfl, hb, hc0, hxk⟩ := (HX.out.below hB rr).at_ hlt
    obtain ⟨b', off', p', rfl, hb', hc0', hyk⟩ := (HY.out.below hB rr).at_ hlt
    have HK := hI hxk; clear hxk
    have HK' := hI hyk; clear hyk
    go_wp2
    by_cases h1 : p = p'
    ·subst h1
     have HS := hI (take_snoc' xs k p HK.out)
     have HS' := hI (take_snoc' ys k p HK'.out)
     have he2 : (p != p) = false := by simp
     go_quiet (fail)
     go_wp2
     go_roundw
     case rel => exact ⟨k + 1, by omega, by go_num, by rw [HS.out, HS'.out, HA.out], bel⟩
     case measure => simp [intOf]; omega
    ·have hf : decide (xs = ys) = false := by
      apply decide_eq_false
      rintro rfl
      have := HK.out.symm.trans HK'.out
      simp only [Option.some.injEq] at this
      exact h1 this
     have HF := hI hf; clear hf
     have he2 : (p != p') = true := by simpa using h1
     clear h1
     go_quiet (fail)
     go_wp2
     go_ret
     exact ⟨by rw [HF.out]; rfl, bel⟩
   ·obtain rfl : k = n := by omega
    have hf : decide (xs = ys) = true := by
     apply decide_eq_true
     have := HA.out
     rwa [List.take_of_length_le (by rw [HX.out.len]; exact rr), List.take_of_length_le (by rw [HY.out.len]; exact rr)] at this
    have HF := hI hf; clear hf
    go_wp2
    go_ret
    exact ⟨by rw [HF.out]; rfl, hB⟩
 ·have hf : decide (xs = ys) = false := by
   apply decide_eq_false
   rintro rfl
   exact hn (hx.len.symm.trans hy.len)
  have HF := hI hf; clear hf
  have hne : ((n : Int) != (n' : Int)) = true := by simp; omega
  have HX := hI hx; clear hx
  have HY := hI hy; clear hy
  go_enter Tryz.func109, Tryz.ntmps109
  go_wp2
  go_ret
  exact ⟨by rw [HF.out]; rfl, bel⟩
end Go.Proofs.YtlgliddhideflaaGreatDoor

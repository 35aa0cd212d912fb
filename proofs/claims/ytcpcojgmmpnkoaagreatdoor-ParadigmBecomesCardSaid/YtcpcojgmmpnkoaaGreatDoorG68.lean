/-
  ablautref29: Equal, EqualRows; ablautlaw29: same, equal.
  ablautref29: shape, words, Check.
  A parameter that is a paradigm is opened, with the ranges of its numbers.
-/
import Derived.Test.YtcpcojgmmpnkoaaGreatDoorG62
import Derived.Test.YtcpcojgmmpnkoaaGreatDoorG53
set_option linter.all false
set_option maxRecDepth 100000
set_option maxHeartbeats 4000000
namespace Go.Proofs.YtcpcojgmmpnkoaaGreatDoor
open Go.RowKit Go.Shelf
theorem r29Equal_c (a b : FormR) (w : World) (ha : IsWord w a.p.1 a.p.2.1 a.p.2.2.1 a.p.2.2.2) (hb : IsWord w b.p.1 b.p.2.1 b.p.2.2.1 b.p.2.2.2) :
  Calls Tryz.prog 69 #[formV a, formV b] w fun e w' => e = .returned (.bool (decide (a.data = b.data))) ∧ Below w.heap.size w w' := by
 obtain ⟨h, A, n, c, ws⟩ := a
 obtain ⟨h', A', n', c', ws'⟩ := b
 have HA : Hid (IsWord w A n c ws) := ha
 have HB : Hid (IsWord w A' n' c' ws') := hb
 clear ha hb
 show Calls Tryz.prog 69 #[.agg #[.bool h, .slice A n c], .agg #[.bool h', .slice A' n' c']] w fun e w' => e = .returned (.bool (decide ((h, ws) = (h', ws')))) ∧ Below w.heap.size w w'
 go_enter Tryz.func69, Tryz.ntmps69
 by_cases hh : h = h'
 ·subst hh
  have HD : Hid (decide ((h, ws) = (h, ws')) = decide (ws = ws')) := decide_eq_decide.2 (by simp)
  have he : (h == h) = true := by simp
  go_wp2_with fail
  have hb9 : Below w.heap.size w ((w.alloc (.cells #[.bool h, .slice A n c] 77)).alloc (.cells #[.bool h, .slice A' n' c'] 77)) := bel
  refine (rEqual_c A A' n n' c c' ws ws' _ (HA.out.below hb9 rr) (HB.out.below hb9 rr)).mono ?_
  rintro e w3 ⟨rfl, hb3⟩
  go_wp2
  go_ret
  exact ⟨by rw [HD.out]; rfl, hb9.trans (hb3.mono hb9.size)⟩
 ·have HD : Hid (decide ((h, ws) = (h', ws')) = false) := decide_eq_false (fun e => hh (congrArg Prod.fst e))
  have he : (h == h') = false := by simpa using hh
  go_wp2
  go_ret
  exact ⟨by rw [HD.out]; rfl, bel⟩
theorem r29Rows_c (A A' : Option Addr) (n n' c c' : Nat) (l l' : List Frm) (w : World) (hx : IsForms w A n c l) (hy : IsForms w A' n' c' l') :
  Calls Tryz.prog 50 #[.slice A n c, .slice A' n' c'] w fun e w' => e = .returned (.bool (decide (l = l'))) ∧ Below w.heap.size w w' := by
 have hm := hx.max
 have hm' := hy.max
 have HX := hI hx; clear hx
 have HY := hI hy; clear hy
 by_cases hn : n = n'
 case neg =>
  have HF : Hid (decide (l = l') = false) := decide_eq_false fun e => hn (by rw [← HX.out.len, ← HY.out.len, e])
  have hne : ((n : Int) != (n' : Int)) = true := by simp; omega
  go_enter Tryz.func50, Tryz.ntmps50
  go_wp2
  go_ret
  exact ⟨by rw [HF.out]; rfl, bel⟩
 subst hn
 have hne : ((n : Int) != (n : Int)) = false := by simp
 go_enter Tryz.func50, Tryz.ntmps50
 go_wp2_with fail
 clear hne
 go_loopw [5] (fun vi wr => ∃ k : Nat, vi = .int .i64 k ∧ k ≤ n ∧ Hid (l.take k = l'.take k) ∧ Below w.heap.size w wr) (fun vi _ => n - (intOf vi).toNat)
 case atStart => exact ⟨0, rfl, Nat.zero_le _, by simp [Hid], Below.refl _ _⟩
 case round =>
  obtain ⟨k, rfl, hk, hall, hB⟩ := hrel
  have hBs := hB.size
  by_cases hlt : k < n
  ·have hk1 : (k : Int) < (n : Int) := by omega
   obtain ⟨b, off, h, A1, n1, c1, ws, rfl, hb, hc0, hc1, hlk, hws⟩ := (HX.out.below hB rr).at_ hlt
   obtain ⟨b', off', h', A2, n2, c2, ws', rfl, hb', hd0, hd1, hlk', hws'⟩ := (HY.out.below hB rr).at_ hlt
   have HW := hI hws; clear hws
   have HW' := hI hws'; clear hws'
   have HLK := hI hlk; clear hlk
   have HLK' := hI hlk'; clear hlk'
   go_wp2_with fail
   refine plain_region (fun W' => W'.cell? ⟨b, off + k * 2, none⟩ = some (.bool h) ∧ W'.cell? ⟨b, off + k * 2 + 1, none⟩ = some (.slice A1 n1 c1) ∧ W'.cell? ⟨b', off' + k * 2, none⟩ = some (.bool h') ∧ W'.cell? ⟨b', off' + k * 2 + 1, none⟩ = some (.slice A2 n2 c2)) (by kernel_rfl) ⟨hc0, hc1, hd0, hd1⟩ (fun hHeld => ?_)
   (refine' anyT_tk 0 rfl ?_; (try simp only [Act.put, nY, nX])); (refine' anyT_tk 1 rfl ?_; (try simp only [Act.put, nY, nX])); (refine' anyT_tk 2 rfl ?_; (try simp only [Act.put, nY, nX])); (refine' anyT_tk 3 rfl ?_; (try simp only [Act.put, nY, nX])); (refine' anyT_tk 4 rfl ?_; (try simp only [Act.put, nY, nX])); (refine' anyT_tk 5 rfl ?_; (try simp only [Act.put, nY, nX])); (refine' anyT_tk 6 rfl ?_; (try simp only [Act.put, nY, nX])); (refine' anyT_tk 7 rfl ?_; (try simp only [Act.put, nY, nX]))
   (refine anyT_sp 8 rfl (fun K' hK' => ?_); simp only [nY]; go_simp)
   have hd5 : Below wr.heap.size wr wr.drew := (Below.refl wr.heap.size wr).drew
   refine (r29Equal_c ⟨h, (A1, n1, c1, ws)⟩ ⟨h', (A2, n2, c2, ws')⟩ _ (HW.out.below hd5 rr) (HW'.out.below hd5 rr)).mono ?_
   rintro e w6 ⟨rfl, hb6'⟩
   have hb6 : Below wr.heap.size wr w6 := hd5.trans (hb6'.mono hd5.size)
   have hB6 := hB.trans (hb6.mono hBs)
   obtain ⟨d, hd⟩ : ∃ d, d = decide (FormR.data ⟨h, (A1, n1, c1, ws)⟩ = FormR.data ⟨h', (A2, n2, c2, ws')⟩) := ⟨_, rfl⟩
   rw [← hd]
   have HD : Hid (d = decide ((h, ws) = (h', ws'))) := hd
   clear hd
   refine hK' _ _ ⟨.inr ⟨(hb6.cell (p := ⟨b, off + k * 2, none⟩) hb).trans hc0, (hb6.cell (p := ⟨b, off + k * 2 + 1, none⟩) hb).trans hc1, (hb6.cell (p := ⟨b', off' + k * 2, none⟩) hb').trans hd0, (hb6.cell (p := ⟨b', off' + k * 2 + 1, none⟩) hb').trans hd1⟩, fun _ => ?_⟩
   clear hK' K' hHeld hd5 hb6' hb6
   (try simp only [Act.put, nY, nX])
   (refine anyT_sp 9 rfl (fun K' hK' => ?_); simp only [nY]; go_simp)
   refine hK' _ _ ⟨.inl (by kernel_rfl), fun _ => anyT_done (by kernel_rfl) ?_ _⟩
   clear hK' K'
   cases d
   ·have HF : Hid (decide (l = l') = false) := decide_eq_false fun e => by
     have h1 := HLK.out
     rw [e, HLK'.out] at h1
     exact of_decide_eq_false HD.out.symm (Option.some.inj h1).symm
    go_wp2
    go_ret
    exact ⟨by rw [HF.out]; rfl, hB6⟩
   ·have HN : Hid (l.take (k + 1) = l'.take (k + 1)) := by
     show _ = _
     rw [take_snoc' l k _ HLK.out, take_snoc' l' k _ HLK'.out, hall.out, of_decide_eq_true HD.out.symm]
    go_wp2
    go_roundw
    case rel => exact ⟨k + 1, by go_num, by omega, HN.out, hB6⟩
    case measure => simp [intOf]; omega
  ·have hk1 : ¬ ((k : Int) < (n : Int)) := by omega
   have HF : Hid (decide (l = l') = true) := by
    have := hall.out
    rw [List.take_of_length_le (by rw [HX.out.len]; omega), List.take_of_length_le (by rw [HY.out.len]; omega)] at this
    exact decide_eq_true this
   go_wp2
   go_ret
   exact ⟨by rw [HF.out]; rfl, hB⟩
theorem same29_c (A A' : Option Addr) (n n' c c' : Nat) (l l' : List (List Frm)) (w : World) (hx : IsPar w A n c l) (hy : IsPar w A' n' c' l') :
  Calls Tryz.prog 53 #[.slice A n c, .slice A' n' c'] w fun e w' => e = .returned (.bool (decide (l = l'))) ∧ Below w.heap.size w w' := by
 have hm := hx.max
 have hm' := hy.max
 have HX := hI hx; clear hx
 have HY := hI hy; clear hy
 by_cases hn : n = n'
 case neg =>
  have HF : Hid (decide (l = l') = false) := decide_eq_false fun e => hn (by rw [← HX.out.len, ← HY.out.len, e])
  have hne : ((n : Int) != (n' : Int)) = true := by simp; omega
  go_enter Tryz.func53, Tryz.ntmps53
  go_wp2
  go_ret
  exact ⟨by rw [HF.out]; rfl, bel⟩
 subst hn
 have hne : ((n : Int) != (n : Int)) = false := by simp
 go_enter Tryz.func53, Tryz.ntmps53
 go_wp2_with fail
 clear hne
 go_loopw [5] (fun vi wr => ∃ k : Nat, vi = .int .i64 k ∧ k ≤ n ∧ Hid (l.take k = l'.take k) ∧ Below w.heap.size w wr) (fun vi _ => n - (intOf vi).toNat)
 case atStart => exact ⟨0, rfl, Nat.zero_le _, by simp [Hid], Below.refl _ _⟩
 case round =>
  obtain ⟨k, rfl, hk, hall, hB⟩ := hrel
  have hBs := hB.size
  by_cases hlt : k < n
  ·have hk1 : (k : Int) < (n : Int) := by omega
   obtain ⟨b, off, A1, n1, c1, x, rfl, hb, hc0, hlk, hws⟩ := (HX.out.below hB rr).at_ hlt
   obtain ⟨b', off', A2, n2, c2, y, rfl, hb', hd0, hlk', hws'⟩ := (HY.out.below hB rr).at_ hlt
   have HW := hI hws; clear hws
   have HW' := hI hws'; clear hws'
   have HLK := hI hlk; clear hlk
   have HLK' := hI hlk'; clear hlk'
   go_wp2_with fail
   refine plain_region (fun W' => W'.cell? ⟨b, off + k, none⟩ = some (.slice A1 n1 c1) ∧ W'.cell? ⟨b', off' + k, none⟩ = some (.slice A2 n2 c2)) (by kernel_rfl) ⟨hc0, hd0⟩ (fun hHeld => ?_)
   (refine' anyT_tk 0 rfl ?_; (try simp only [Act.put, nY, nX])); (refine' anyT_tk 1 rfl ?_; (try simp only [Act.put, nY, nX])); (refine' anyT_tk 2 rfl ?_; (try simp only [Act.put, nY, nX])); (refine' anyT_tk 3 rfl ?_; (try simp only [Act.put, nY, nX])); (refine' anyT_tk 4 rfl ?_; (try simp only [Act.put, nY, nX])); (refine' anyT_tk 5 rfl ?_; (try simp only [Act.put, nY, nX])); (refine' anyT_tk 6 rfl ?_; (try simp only [Act.put, nY, nX])); (refine' anyT_tk 7 rfl ?_; (try simp only [Act.put, nY, nX]))
   (refine anyT_sp 8 rfl (fun K' hK' => ?_); simp only [nY]; go_simp)
   have hd5 : Below wr.heap.size wr wr.drew := (Below.refl wr.heap.size wr).drew
   refine (r29Rows_c A1 A2 n1 n2 c1 c2 x y _ (HW.out.below hd5 rr) (HW'.out.below hd5 rr)).mono ?_
   rintro e w6 ⟨rfl, hb6'⟩
   have hb6 : Below wr.heap.size wr w6 := hd5.trans (hb6'.mono hd5.size)
   have hB6 := hB.trans (hb6.mono hBs)
   obtain ⟨d, hd⟩ : ∃ d, d = decide (x = y) := ⟨_, rfl⟩
   rw [← hd]
   have HD : Hid (d = decide (x = y)) := hd
   clear hd
   refine hK' _ _ ⟨.inr ⟨(hb6.cell (p := ⟨b, off + k, none⟩) hb).trans hc0, (hb6.cell (p := ⟨b', off' + k, none⟩) hb').trans hd0⟩, fun _ => ?_⟩
   clear hK' K' hHeld hd5 hb6' hb6
   (try simp only [Act.put, nY, nX])
   (refine anyT_sp 9 rfl (fun K' hK' => ?_); simp only [nY]; go_simp)
   refine hK' _ _ ⟨.inl (by kernel_rfl), fun _ => anyT_done (by kernel_rfl) ?_ _⟩
   clear hK' K'
   cases d
   ·have HF : Hid (decide (l = l') = false) := decide_eq_false fun e => by
     have h1 := HLK.out
     rw [e, HLK'.out] at h1
     exact of_decide_eq_false HD.out.symm (Option.some.inj h1).symm
    go_wp2
    go_ret
    exact ⟨by rw [HF.out]; rfl, hB6⟩
   ·have HN : Hid (l.take (k + 1) = l'.take (k + 1)) := by
     show _ = _
     rw [take_snoc' l k _ HLK.out, take_snoc' l' k _ HLK'.out, hall.out, of_decide_eq_true HD.out.symm]
    go_wp2
    go_roundw
    case rel => exact ⟨k + 1, by go_num, by omega, HN.out, hB6⟩
    case measure => simp [intOf]; omega
  ·have hk1 : ¬ ((k : Int) < (n : Int)) := by omega
   have HF : Hid (decide (l = l') = true) := by
    have := hall.out
    rw [List.take_of_length_le (by rw [HX.out.len]; omega), List.take_of_length_le (by rw [HY.out.len]; omega)] at this
    exact decide_eq_true this
   go_wp2
   go_ret
   exact ⟨by rw [HF.out]; rfl, hB⟩
theorem equal29_c (A A' : Option Addr) (n n' c c' : Nat) (xs ys : List Int) (w : World) (hx : IsInts w A n c xs) (hy : IsInts w A' n' c' ys) :
  Calls Tryz.prog 60 #[.slice A n c, .slice A' n' c'] w fun e w' => e = .returned (.bool (decide (xs = ys))) ∧ Below w.heap.size w w' := by
 have hm := hx.max
 by_cases hn : n = n'
 ·subst hn
  have HX := hI hx; clear hx
  have HY := hI hy; clear hy
  go_enter Tryz.func60, Tryz.ntmps60
  go_wp2
  go_loopw [5] (fun i wr => ∃ k : Nat, k ≤ n ∧ i = .int .i64 k ∧ xs.take k = ys.take k ∧ Below w.heap.size w wr) (fun i _ => n - (intOf i).toNat)
  case atStart => exact ⟨0, Nat.zero_le _, rfl, by simp, bel⟩
  case round =>
   obtain ⟨k, hk, rfl, hall, hB⟩ := hrel
   have HA := hI hall; clear hall
   by_cases hlt : k < n
   ·obtain ⟨b, off, p, rfl, hb, hc0, hxk⟩ := (HX.out.below hB rr).at_ hlt
    obtain ⟨b', off', p', rfl, hb', hc0', hyk⟩ := (HY.out.below hB rr).at_ hlt
    have HK := hI hxk; clear hxk
    have HK' := hI hyk; clear hyk
    go_wp2
    by_cases h1 : p = p'
    ·subst h1
     have HS := hI (take_snoc' xs k p HK.out)
     have HS' := hI (take_snoc' ys k p HK'.out)
     have he2 : (p != p) = false := by simp
     go_quiet (fail)
     go_wp2
     go_roundw
     case rel => exact ⟨k + 1, by omega, by go_num, by rw [HS.out, HS'.out, HA.out], bel⟩
     case measure => simp [intOf]; omega
    ·have hf : decide (xs = ys) = false := by
      apply decide_eq_false
      rintro rfl
      have := HK.out.symm.trans HK'.out
      simp only [Option.some.injEq] at this
      exact h1 this
     have HF := hI hf; clear hf
     have he2 : (p != p') = true := by simpa using h1
     clear h1
     go_quiet (fail)
     go_wp2
     go_ret
     exact ⟨by rw [HF.out]; rfl, bel⟩
   ·obtain rfl : k = n := by omega
    have hf : decide (xs = ys) = true := by
     apply decide_eq_true
     have := HA.out
     rwa [List.take_of_length_le (by rw [HX.out.len]; exact rr), List.take_of_length_le (by rw [HY.out.len]; exact rr)] at this
    have HF := hI hf; clear hf
    go_wp2
    go_ret
    exact ⟨by rw [HF.out]; rfl, hB⟩
 ·have hf : decide (xs = ys) = false := by
   apply decide_eq_false
   rintro rfl
   exact hn (hx.len.symm.trans hy.len)
  have HF := hI hf; clear hf
  have hne : ((n : Int) != (n' : Int)) = true := by simp; omega
  have HX := hI hx; clear hx
  have HY := hI hy; clear hy
  go_enter Tryz.func60, Tryz.ntmps60
  go_wp2
  go_ret
  exact ⟨by rw [HF.out]; rfl, bel⟩
def ParU (T : List (List Frm)) : Prop := ∀ l ∈ T, ∀ x ∈ l, WordU x.2
theorem r29Shape_c (A : Option Addr) (n c : Nat) (T : List (List Frm)) (w : World) (hx : IsPar w A n c T) :
  Calls Tryz.prog 114 #[.slice A n c] w fun e w' => e = .returned (.int .i64 (shapeE T)) ∧ Below w.heap.size w w' := by
 have hm := hx.max
 have HX := hI hx; clear hx
 have HM : Hid (shapeE T = if 64 < n ∨ T.any (fun l => decide (16 < l.length)) = true then 12 else if T.any (badRow (T.headD []).length) = true then 2 else 0) := by show _ = _; unfold shapeE; rw [HX.out.len]
 go_enter Tryz.func114, Tryz.ntmps114
 by_cases h64 : 64 < n
 ·have h1 : (64 : Int) < (n : Int) := by omega
  have HR : Hid (shapeE T = 12) := by show _ = _; rw [HM.out, if_pos (.inl h64)]
  go_wp2
  go_ret
  exact ⟨by rw [HR.out]; rfl, Below.refl _ _⟩
 have h1 : ¬ (64 : Int) < (n : Int) := by omega
 go_wp2_with fail
 go_loopw [3] (fun vi wr => ∃ k : Nat, vi = .int .i64 k ∧ k ≤ n ∧ Hid ((T.take k).any (fun l => decide (16 < l.length)) = false) ∧ Below w.heap.size w wr) (fun vi _ => n - (intOf vi).toNat)
 case atStart => exact ⟨0, rfl, Nat.zero_le _, rfl, Below.refl _ _⟩
 case round =>
  obtain ⟨k, rfl, hk, hall, hB⟩ := hrel
  by_cases hlt : k < n
  ·have hk1 : (k : Int) < (n : Int) := by omega
   obtain ⟨b, off, A1, n1, c1, l, rfl, hbl, hc1, hlk, hfl⟩ := (HX.out.below hB rr).at_ hlt
   have hm1 := hfl.max
   have HLN : Hid (l.length = n1) := hfl.len
   have HLK := hI hlk
   clear hlk hfl
   by_cases h16 : 16 < n1
   ·have h16' : (16 : Int) < (n1 : Int) := by omega
    have HR : Hid (shapeE T = 12) := by show _ = _; rw [HM.out, if_pos (.inr (any_at HLK.out (by rw [HLN.out]; exact decide_eq_true h16)))]
    go_wp2
    go_ret
    exact ⟨by rw [HR.out]; rfl, hB⟩
   ·have h16' : ¬ (16 : Int) < (n1 : Int) := by omega
    have HN : Hid ((T.take (k + 1)).any (fun l => decide (16 < l.length)) = false) := any_snoc HLK.out hall.out (by rw [HLN.out]; exact decide_eq_false h16)
    go_wp2
    go_roundw
    case rel => exact ⟨k + 1, by go_num, by omega, HN.out, hB⟩
    case measure => simp [intOf]; omega
  have hk1 : ¬ (k : Int) < (n : Int) := by omega
  have HR : Hid (shapeE T = if T.any (badRow (T.headD []).length) = true then 2 else 0) := by
   have := hall.out
   rw [List.take_of_length_le (by rw [HX.out.len]; omega)] at this
   show _ = _
   rw [HM.out, if_neg (by rw [this]; simp; omega)]
  have hB0 := hB
  clear hall
  go_wp2_with fail
  go_loopw [4] (fun vi wr => ∃ i : Nat, vi = .int .i64 i ∧ i ≤ n ∧ Hid ((T.take i).any (badRow (T.headD []).length) = false) ∧ Below w.heap.size w wr) (fun vi _ => n - (intOf vi).toNat)
  case atStart => exact ⟨0, rfl, Nat.zero_le _, rfl, hB0⟩
  case round =>
   obtain ⟨i, rfl, hi, hall, hB⟩ := hrel
   by_cases hlt2 : i < n
   ·have hi1 : (i : Int) < (n : Int) := by omega
    have hn0 : (0 : Int) < (n : Int) := by omega
    obtain ⟨b, off, A1, n1, c1, l, rfl, hbl, hc1, hlk, hfl⟩ := HX.out.at_ hlt2
    obtain ⟨b', off', A0, m0, c0, l0, he, _, hc0, hl0, hf0⟩ := HX.out.at_ (k := 0) (by omega)
    obtain ⟨rfl, rfl⟩ : b = b' ∧ off = off' := by simpa using he
    clear he
    have hd1 := (hB.cell (p := ⟨b, off + i, none⟩) hbl).trans hc1
    have hd0 : wr.cell? ⟨b, off, none⟩ = some (.slice A0 m0 c0) := (hB.cell (p := ⟨b, off, none⟩) hbl).trans hc0
    have HC1 := hI hc1
    clear hc1 hc0
    have hm1 := hfl.max
    have hm0 := hf0.max
    have HH : Hid ((T.headD []).length = m0) := by
     show _ = _
     rw [← hf0.len]
     cases hT : T with
     | nil => rw [hT] at hl0; cases hl0
     | cons x r => rw [hT] at hl0; simp at hl0; rw [hl0]; rfl
    have HLN : Hid (l.length = n1) := hfl.len
    have HLK := hI hlk
    have HF := hI hfl
    clear hlk hfl hl0 hf0
    by_cases hne : n1 = m0
    case neg =>
     have hne1 : ((n1 : Int) != (m0 : Int)) = true := by simp; omega
     have HF2 : Hid (shapeE T = 2) := by show _ = _; rw [HR.out, if_pos (any_at HLK.out (by unfold badRow; rw [HLN.out, HH.out, decide_eq_true hne]; rfl))]
     go_wp2_with fail
     go_quiet (fail)
     go_wp2
     go_ret
     exact ⟨by rw [HF2.out]; rfl, bel⟩
    subst hne
    have hne1 : ((n1 : Int) != (n1 : Int)) = false := by simp
    go_wp2_with fail
    go_quiet (fail)
    clear hd0 hd1 hne1
    go_wp2_with fail
    go_loopw [5] (fun vj wr => ∃ j : Nat, vj = .int .i64 j ∧ j ≤ n1 ∧ Hid ((l.take j).any (fun x => !x.1 && decide (0 < x.2.length)) = false) ∧ Below w.heap.size w wr) (fun vj _ => n1 - (intOf vj).toNat)
    case atStart => exact ⟨0, rfl, Nat.zero_le _, rfl, bel⟩
    case round =>
     obtain ⟨j, rfl, hj, hal2, hB2⟩ := hrel
     have hd1 := (hB2.cell (p := ⟨b, off + i, none⟩) hbl).trans HC1.out
     by_cases hltj : j < n1
     ·have hj1 : (j : Int) < (n1 : Int) := by omega
      obtain ⟨b2, off2, h, A2, n2, c2, ws, rfl, hb2, e0, e1, hlj, hwj⟩ := (HF.out.below hB2 rr).at_ hltj
      have hm2 := hwj.max
      have HWL : Hid (ws.length = n2) := hwj.len
      have HLJ := hI hlj
      clear hlj hwj
      cases h with
      | true =>
       have HN : Hid ((l.take (j + 1)).any (fun x => !x.1 && decide (0 < x.2.length)) = false) := any_snoc HLJ.out hal2.out rfl
       go_wp2
       go_roundw
       case rel => exact ⟨j + 1, by go_num, by omega, HN.out, hB2⟩
       case measure => simp [intOf]; omega
      | false =>
       by_cases hp : 0 < n2
       ·have hp' : (0 : Int) < (n2 : Int) := by omega
        have HF2 : Hid (shapeE T = 2) := by
         show _ = _
         rw [HR.out, if_pos (any_at HLK.out (by unfold badRow; rw [any_at HLJ.out (by show (!false && decide (0 < ws.length)) = true; rw [HWL.out, decide_eq_true hp]; rfl)]; simp))]
        go_wp2
        go_ret
        exact ⟨by rw [HF2.out]; rfl, hB2⟩
       ·have hp' : ¬ (0 : Int) < (n2 : Int) := by omega
        have HN : Hid ((l.take (j + 1)).any (fun x => !x.1 && decide (0 < x.2.length)) = false) := any_snoc HLJ.out hal2.out (by show (!false && decide (0 < ws.length)) = false; rw [HWL.out, decide_eq_false hp]; rfl)
        go_wp2
        go_roundw
        case rel => exact ⟨j + 1, by go_num, by omega, HN.out, hB2⟩
        case measure => simp [intOf]; omega
     ·have hj1 : ¬ (j : Int) < (n1 : Int) := by omega
      have HN : Hid ((T.take (i + 1)).any (badRow (T.headD []).length) = false) := any_snoc HLK.out hall.out (by
       have := hal2.out
       rw [List.take_of_length_le (by rw [HLN.out]; omega)] at this
       unfold badRow
       rw [this, HLN.out, HH.out]; simp)
      go_wp2
      go_roundw
      case rel => exact ⟨i + 1, by go_num, by omega, HN.out, hB2⟩
      case measure => simp [intOf]; omega
   ·have hi1 : ¬ (i : Int) < (n : Int) := by omega
    have HF2 : Hid (shapeE T = 0) := by
     have := hall.out
     rw [List.take_of_length_le (by rw [HX.out.len]; omega)] at this
     show _ = _
     rw [HR.out, if_neg (by rw [this]; decide)]
    go_wp2
    go_ret
    exact ⟨by rw [HF2.out]; rfl, hB⟩
theorem r29Words_c (A : Option Addr) (n c : Nat) (T : List (List Frm)) (w : World) (hx : IsPar w A n c T) (hu : ParU T) :
  Calls Tryz.prog 115 #[.slice A n c] w fun e w' => e = .returned (.int .i64 (wordsE T)) ∧ Below w.heap.size w w' := by
 have hm := hx.max
 have HX := hI hx; clear hx
 have HU := hI hu; clear hu
 go_enter Tryz.func115, Tryz.ntmps115
 go_wp2_with fail
 go_loopw [3] (fun vi wr => ∃ k : Nat, vi = .int .i64 k ∧ k ≤ n ∧ Hid (wordsE T = wordsE (T.drop k)) ∧ Below w.heap.size w wr) (fun vi _ => n - (intOf vi).toNat)
 case atStart => exact ⟨0, rfl, Nat.zero_le _, rfl, Below.refl _ _⟩
 case round =>
  obtain ⟨k, rfl, hk, hrest, hB⟩ := hrel
  by_cases hlt : k < n
  ·have hk1 : (k : Int) < (n : Int) := by omega
   obtain ⟨b, off, A1, n1, c1, l, rfl, hbl, hc1, hlk, hfl⟩ := HX.out.at_ hlt
   have HC1 := hI hc1; clear hc1
   have hm1 := hfl.max
   have HD := hI (words_drop hlk)
   have HUL := hI (HU.out l (List.mem_of_getElem? hlk))
   have HF := hI hfl; clear hfl hlk
   go_wp2_with fail
   go_loopw [4] (fun vj wr => ∃ j : Nat, vj = .int .i64 j ∧ j ≤ n1 ∧ Hid (firstE (l.map (·.2)) = firstE ((l.drop j).map (·.2))) ∧ Below w.heap.size w wr) (fun vj _ => n1 - (intOf vj).toNat)
   case atStart => exact ⟨0, rfl, Nat.zero_le _, rfl, hB⟩
   case round =>
    obtain ⟨j, rfl, hj, hrest2, hB2⟩ := hrel
    have hd1 := (hB2.cell (p := ⟨b, off + k, none⟩) hbl).trans HC1.out
    by_cases hltj : j < n1
    ·have hj1 : (j : Int) < (n1 : Int) := by omega
     obtain ⟨b2, off2, hs, A2, n2, c2, ws, rfl, hb2, hd0, hd2, hlj, hwj⟩ := (HF.out.below hB2 rr).at_ hltj
     have HW := hI hwj; clear hwj
     have HUW : Hid (WordU ws) := HUL.out _ (List.mem_of_getElem? hlj)
     have HDJ := hI (forms_drop hlj); clear hlj
     go_wp2_with fail
     refine (r2Check_c A2 n2 c2 ws wr HW.out HUW.out).mono ?_
     obtain ⟨er, her⟩ : ∃ er, er = wcheck ws := ⟨_, rfl⟩
     rw [← her]
     rw [← her] at HDJ
     clear her
     rintro e w3 ⟨rfl, hb3⟩
     have hB3 : Below w.heap.size w w3 := hB2.trans (hb3.mono hB2.size)
     clear hb3 hd1 hd0 hd2
     by_cases h0 : er = 0
     ·have h1 : (er != 0) = false := by simpa using h0
      have HN : Hid (firstE (l.map (·.2)) = firstE ((l.drop (j + 1)).map (·.2))) := by show _ = _; rw [hrest2.out, HDJ.out, if_neg (by simpa using h0)]
      clear h0
      go_wp2
      go_roundw
      case rel => exact ⟨j + 1, by go_num, by omega, HN.out, hB3⟩
      case measure => simp [intOf]; omega
     ·have h1 : (er != 0) = true := by simpa using h0
      have HN : Hid (wordsE T = er) := by
       have h2 : firstE (l.map (·.2)) = er := by rw [hrest2.out, HDJ.out, if_pos h0]
       show _ = _
       rw [hrest.out, HD.out, h2, if_pos h0]
      clear h0
      go_wp2
      go_ret
      exact ⟨by rw [HN.out]; rfl, hB3⟩
    ·have hj1 : ¬ (j : Int) < (n1 : Int) := by omega
     have HN : Hid (wordsE T = wordsE (T.drop (k + 1))) := by
      have h2 : firstE (l.map (·.2)) = 0 := by rw [hrest2.out, List.drop_eq_nil_of_le (by rw [HF.out.len]; omega)]; rfl
      show _ = _
      rw [hrest.out, HD.out, h2, if_neg (by decide)]
     go_wp2
     go_roundw
     case rel => exact ⟨k + 1, by go_num, by omega, HN.out, hB2⟩
     case measure => simp [intOf]; omega
  ·have hk1 : ¬ (k : Int) < (n : Int) := by omega
   have HN : Hid (wordsE T = 0) := by show _ = _; rw [hrest.out, List.drop_eq_nil_of_le (by rw [HX.out.len]; omega)]; rfl
   go_wp2
   go_ret
   exact ⟨by rw [HN.out]; rfl, hB⟩
theorem r29Check_c (A : Option Addr) (n c : Nat) (T : List (List Frm)) (w : World) (hx : IsPar w A n c T) (hu : ParU T) :
  Calls Tryz.prog 52 #[.slice A n c] w fun e w' => e = .returned (.int .i64 (parE T)) ∧ Below w.heap.size w w' := by
 have HX := hI hx; clear hx
 have HU := hI hu; clear hu
 go_enter Tryz.func52, Tryz.ntmps52
 go_wp2_with fail
 refine (r29Shape_c A n c T w HX.out).mono ?_
 obtain ⟨er, her⟩ : ∃ er, er = shapeE T := ⟨_, rfl⟩
 rw [← her]
 rintro e w1 ⟨rfl, hB1⟩
 by_cases h0 : er = 0
 ·have h1 : (er != 0) = false := by simpa using h0
  have HM : Hid (parE T = wordsE T) := by show _ = _; unfold parE; rw [← her, if_neg (by simpa using h0)]
  clear h0 her
  go_wp2_with fail
  refine (r29Words_c A n c T w1 (HX.out.below hB1 rr) HU.out).mono ?_
  rintro e w2 ⟨rfl, hb2⟩
  go_wp2
  go_ret
  exact ⟨by rw [HM.out]; rfl, hB1.trans (hb2.mono hB1.size)⟩
 ·have h1 : (er != 0) = true := by simpa using h0
  have HM : Hid (parE T = er) := by show _ = _; unfold parE; rw [← her, if_pos h0]
  clear h0 her
  go_wp2
  go_ret
  exact ⟨by rw [HM.out]; rfl, hB1⟩
end Go.Proofs.YtcpcojgmmpnkoaaGreatDoor
namespace Go.Proofs.YtcpcojgmmpnkoaaGreatDoor
open Go.RowKit Go.ChangeShapes Go.WideShapes Go.ChangeAt
section
variable {H : Type} {enc : TypeId × Value → H} {w : World} {base : Nat} {spare : Nat → Bool} {held : Bool}
set_option maxRecDepth 100000
theorem c_form : Tryz.prog.cellsOf 77 = 2 := by kernel_rfl
theorem c_forms : Tryz.prog.cellsOf 70 = 1 := by kernel_rfl
theorem form_rowU {fuel : Nat} {r : List Value} {x : DataW H × List MemPlace} (h : DataW.trod enc Tryz.prog w base spare held fuel 77 r = some x) : ∃ f : FormR, r = f.cells ∧ IsWord w f.p.1 f.p.2.1 f.p.2.2.1 f.p.2.2.2 ∧ WordU f.p.2.2.2 := by
 obtain ⟨n, _, hl, hf⟩ := open_fields Tryz.underlying77 h
 rw [c_form] at hl
 match r, hl with
 | [c0, c1], _ =>
  simp only [List.mem_cons, forall_eq_or_imp, List.not_mem_nil, false_implies, implies_true, and_true, c_bool, c_word, List.drop_zero, List.drop_succ_cons, List.take_succ_cons, List.take_zero] at hf
  obtain ⟨⟨_, h0⟩, ⟨_, h1⟩⟩ := hf
  obtain ⟨b, e0, _⟩ := DataW.trod_bool Tryz.underlying4 h0
  obtain ⟨A, m, c, xs, e1, hx, hu⟩ := open_word0U h1
  simp only [List.cons.injEq, and_true] at e0 e1
  subst e0 e1
  exact ⟨⟨b, (A, m, c, xs)⟩, rfl, hx, hu⟩
theorem open_forms0U {fuel : Nat} {cs : List Value} {x : DataW H × List MemPlace} (h : DataW.trod enc Tryz.prog w base spare held fuel 70 cs = some x) : ∃ A n c l, cs = [.slice A n c] ∧ IsForms w A n c l ∧ ∀ x ∈ l, WordU x.2 := by
 obtain ⟨A, n, c, m, L, rfl, hL, hc, hr⟩ := open_rows Tryz.underlying70 (by rw [show Tryz.prog.cellsOf _ = 2 from c_form]; decide) h
 obtain ⟨fs, rfl, hq⟩ := rows_are (g := FormR.cells) L (fun r hr' => form_rowU (hr r hr').2.2.choose_spec)
 rw [show Tryz.prog.cellsOf _ = 2 from c_form, flatMap_map] at hc
 refine ⟨A, n, c, fs.map FormR.data, rfl, ⟨fs, rfl, ⟨hc, by simpa using hL⟩, fun f hf => (hq f hf).1⟩, fun x hx => ?_⟩
 obtain ⟨f, h1, rfl⟩ := List.mem_map.1 hx
 exact (hq f h1).2
theorem row_rowU {fuel : Nat} {r : List Value} {x : DataW H × List MemPlace} (h : DataW.trod enc Tryz.prog w base spare held fuel 70 r = some x) : ∃ p : RowR, r = [p.val] ∧ IsForms w p.A p.n p.c p.l ∧ ∀ x ∈ p.l, WordU x.2 := by
 obtain ⟨A, n, c, l, rfl, hx⟩ := open_forms0U h
 exact ⟨⟨A, n, c, l⟩, rfl, hx⟩
theorem open_par0U {fuel : Nat} {cs : List Value} {x : DataW H × List MemPlace} (h : DataW.trod enc Tryz.prog w base spare held fuel 66 cs = some x) : ∃ A n c T, cs = [.slice A n c] ∧ IsPar w A n c T ∧ ParU T := by
 obtain ⟨A, n, c, m, L, rfl, hL, hc, hr⟩ := open_rows Tryz.underlying66 (by rw [c_forms]; decide) h
 obtain ⟨rs, rfl, hp⟩ := rows_are (g := fun p : RowR => [p.val]) L (fun r hr' => row_rowU (hr r hr').2.2.choose_spec)
 rw [c_forms, flatMap_map, flatMap_one] at hc
 refine ⟨A, n, c, rs.map RowR.l, rfl, ⟨rs, rfl, hc, fun r h => (hp r h).1⟩, fun l hl => ?_⟩
 obtain ⟨p, h1, rfl⟩ := List.mem_map.1 hl
 exact (hp p h1).2
end
section
variable {H : Type} {enc : TypeId × Value → H} {w : World} {base : Nat} {spare : Nat → Bool} {held : Bool} {A : Option Addr} {n c : Nat} {d : DataW H} {p : List MemPlace}
theorem open_parU (h : DataW.Trod enc Tryz.prog w base spare held 66 (.slice A n c) d p) : ∃ T, IsPar w A n c T ∧ ParU T := by
 obtain ⟨_, hf⟩ := h
 obtain ⟨A', n', c', xs, e, hx⟩ := open_par0U hf
 simp [Value.cells] at e
 obtain ⟨rfl, rfl, rfl⟩ := e
 exact ⟨xs, hx⟩
end
end Go.Proofs.YtcpcojgmmpnkoaaGreatDoor

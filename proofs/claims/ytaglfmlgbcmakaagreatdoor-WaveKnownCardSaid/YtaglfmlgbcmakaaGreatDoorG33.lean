/-
  ablautref02.Equal, Same; ablautlaw10.numbers.
-/
import Derived.Test.YtaglfmlgbcmakaaGreatDoorG15
set_option linter.all false
set_option maxRecDepth 100000
set_option maxHeartbeats 4000000
namespace Go.Proofs.YtaglfmlgbcmakaaGreatDoor
open Go.RowKit Go.Shelf
theorem rSame_c (A A' : Option Addr) (n n' c c' : Nat) (xs ys : List (List Snd)) (w : World) (hx : IsWords w A n c xs) (hy : IsWords w A' n' c' ys) :
  Calls Tryz.prog 45 #[.slice A n c, .slice A' n' c'] w fun e w' => e = .returned (.bool (decide (xs = ys))) ∧ Below w.heap.size w w' := by
 have hm := hx.max
 by_cases hn : n = n'
 ·subst hn
  have HX := hI hx; clear hx
  have HY := hI hy; clear hy
  go_enter Tryz.func45, Tryz.ntmps45
  go_wp2
  go_loopw [5] (fun i wr => ∃ k : Nat, k ≤ n ∧ i = .int .i64 k ∧ xs.take k = ys.take k ∧ Below w.heap.size w wr) (fun i _ => n - (intOf i).toNat)
  case atStart => exact ⟨0, Nat.zero_le _, rfl, by simp, bel⟩
  case round =>
   obtain ⟨k, hk, rfl, hall, hB⟩ := hrel
   have HA := hI hall; clear hall
   have hBs := hB.size
   by_cases hlt : k < n
   ·obtain ⟨b, off, A5, n5, c5, x5, rfl, hb5, hc5, hx5, hw5⟩ := (HX.out.below hB rr).at_ hlt
    obtain ⟨b', off', A6, n6, c6, x6, rfl, hb6, hc6, hx6, hw6⟩ := (HY.out.below hB rr).at_ hlt
    have HK := hI hx5; clear hx5
    have HK' := hI hx6; clear hx6
    have HW5 := hI hw5; clear hw5
    have HW6 := hI hw6; clear hw6
    have hkn : (k : Int) < (n : Int) := by omega
    go_wp2
    refine plain_region (fun W' => W'.cell? ⟨b, off + k, none⟩ = some (.slice A5 n5 c5) ∧ W'.cell? ⟨b', off' + k, none⟩ = some (.slice A6 n6 c6)) (by kernel_rfl) ⟨hc5, hc6⟩ (fun hHeld => ?_)
    (refine' anyT_tk 0 rfl ?_; (try simp only [Act.put, nY, nX])); (refine' anyT_tk 1 rfl ?_; (try simp only [Act.put, nY, nX])); (refine' anyT_tk 2 rfl ?_; (try simp only [Act.put, nY, nX])); (refine' anyT_tk 3 rfl ?_; (try simp only [Act.put, nY, nX])); (refine' anyT_tk 4 rfl ?_; (try simp only [Act.put, nY, nX])); (refine' anyT_tk 5 rfl ?_; (try simp only [Act.put, nY, nX])); (refine' anyT_tk 6 rfl ?_; (try simp only [Act.put, nY, nX])); (refine' anyT_tk 7 rfl ?_; (try simp only [Act.put, nY, nX]))
    clear hc5 hc6
    (refine anyT_sp 8 rfl (fun K' hK' => ?_); simp only [nY]; go_simp)
    refine (rEqual_c A5 A6 n5 n6 c5 c6 x5 x6 _ (HW5.out.below (B := wr.heap.size) ((Below.refl wr.heap.size wr).drew) rr) (HW6.out.below (B := wr.heap.size) ((Below.refl wr.heap.size wr).drew) rr)).mono ?_
    rintro e w5 ⟨rfl, hb5'⟩
    have hbb : Below wr.heap.size wr w5 := (Below.refl wr.heap.size wr).drew.trans hb5'
    obtain ⟨q1, q2⟩ := hHeld
    refine hK' _ _ ⟨.inr ⟨(hbb.cell (p := ⟨b, off + k, none⟩) (by assumption)).trans q1, (hbb.cell (p := ⟨b', off' + k, none⟩) (by assumption)).trans q2⟩, fun _ => ?_⟩
    clear hK' K' hb5' q1 q2
    have hB5 : Below w.heap.size w w5 := hB.trans (hbb.mono hBs)
    clear hbb
    (try simp only [Act.put, nY, nX])
    (refine anyT_sp 9 rfl (fun K' hK' => ?_); simp only [nY]; go_simp)
    refine hK' _ _ ⟨.inl (by kernel_rfl), fun _ => anyT_done (by kernel_rfl) ?_ _⟩
    clear hK' K'
    obtain ⟨d, hd⟩ : ∃ d, d = decide (x5 = x6) := ⟨_, rfl⟩
    rw [← hd]
    have HDD := hI hd; clear hd
    cases d with
    | true =>
     have hxe : x5 = x6 := of_decide_eq_true HDD.out.symm
     subst hxe
     have HS := hI (take_snoc' xs k x5 HK.out)
     have HS' := hI (take_snoc' ys k x5 HK'.out)
     go_wp2
     go_roundw
     case rel => exact ⟨k + 1, by omega, by go_num, by rw [HS.out, HS'.out, HA.out], hB5⟩
     case measure => simp [intOf]; omega
    | false =>
     have hf : decide (xs = ys) = false := by
      apply decide_eq_false
      rintro rfl
      have h1 := HK.out.symm.trans HK'.out
      have h2 : x5 = x6 := by simpa using h1
      have h3 := HDD.out
      rw [decide_eq_true h2] at h3
      cases h3
     have HF := hI hf; clear hf
     go_wp2
     go_ret
     exact ⟨by rw [HF.out]; rfl, hB5⟩
   ·obtain rfl : k = n := by omega
    have hf : decide (xs = ys) = true := by
     apply decide_eq_true
     have := HA.out
     rwa [List.take_of_length_le (by rw [HX.out.len]; exact rr), List.take_of_length_le (by rw [HY.out.len]; exact rr)] at this
    have HF := hI hf; clear hf
    go_wp2
    go_ret
    exact ⟨by rw [HF.out]; rfl, hB⟩
 ·have hf : decide (xs = ys) = false := by
   apply decide_eq_false
   rintro rfl
   exact hn (hx.len.symm.trans hy.len)
  have HF := hI hf; clear hf
  have hne : ((n : Int) != (n' : Int)) = true := by simp; omega
  have HX := hI hx; clear hx
  have HY := hI hy; clear hy
  go_enter Tryz.func45, Tryz.ntmps45
  go_wp2
  go_ret
  exact ⟨by rw [HF.out]; rfl, bel⟩
end Go.Proofs.YtaglfmlgbcmakaaGreatDoor

/-
  ablautlaw12.ints.
-/
import Derived.Test.YtcpcojgmmpnkoaaGreatDoorG15
set_option linter.unusedVariables false
set_option linter.unusedSimpArgs false
set_option maxRecDepth 100000
set_option maxHeartbeats 4000000
namespace Go.Proofs.YtcpcojgmmpnkoaaGreatDoor
open Go.RowKit Go.Shelf
theorem ints12_c (A A' : Option Addr) (n n' c c' : Nat) (xs ys : List Int) (w : World) (hx : IsInts w A n c xs) (hy : IsInts w A' n' c' ys) :
  Calls Tryz.prog 41 #[.slice A n c, .slice A' n' c'] w fun e w' => e = .returned (.bool (decide (xs = ys))) ∧ Below w.heap.size w w' := by
 have hm := hx.max
 by_cases hn : n = n'
 ·subst hn
  have HX := hI hx; clear hx
  have HY := hI hy; clear hy
  go_enter Tryz.func41, Tryz.ntmps41
  go_wp2
  go_loopw [5] (fun i wr => ∃ k : Nat, k ≤ n ∧ i = .int .i64 k ∧ xs.take k = ys.take k ∧ Below w.heap.size w wr) (fun i _ => n - (intOf i).toNat)
  case atStart => exact ⟨0, Nat.zero_le _, rfl, by simp, bel⟩
  case round =>
   obtain ⟨k, hk, rfl, hall, hB⟩ := hrel
   have HA := hI hall; clear hall
   by_cases hlt : k < n
   ·obtain ⟨b, off, p, rfl, hb, hc0, hxk⟩ := (HX.out.below hB rr).at_ hlt
    obtain ⟨b', off', p', rfl, hb', hc0', hyk⟩ := (HY.out.below hB rr).at_ hlt
    have HK := hI hxk; clear hxk
    have HK' := hI hyk; clear hyk
    go_wp2
    by_cases h1 : p = p'
    ·subst h1
     have HS := hI (take_snoc' xs k p HK.out)
     have HS' := hI (take_snoc' ys k p HK'.out)
     have he2 : (p != p) = false := by simp
     go_quiet (fail)
     go_wp2
     go_roundw
     case rel => exact ⟨k + 1, by omega, by go_num, by rw [HS.out, HS'.out, HA.out], bel⟩
     case measure => simp [intOf]; omega
    ·have hf : decide (xs = ys) = false := by
      apply decide_eq_false
      rintro rfl
      have := HK.out.symm.trans HK'.out
      simp only [Option.some.injEq] at this
      exact h1 this
     have HF := hI hf; clear hf
     have he2 : (p != p') = true := by simpa using h1
     clear h1
     go_quiet (fail)
     go_wp2
     go_ret
     exact ⟨by rw [HF.out]; rfl, bel⟩
   ·obtain rfl : k = n := by omega
    have hf : decide (xs = ys) = true := by
     apply decide_eq_true
     have := HA.out
     rwa [List.take_of_length_le (by rw [HX.out.len]; exact rr), List.take_of_length_le (by rw [HY.out.len]; exact rr)] at this
    have HF := hI hf; clear hf
    go_wp2
    go_ret
    exact ⟨by rw [HF.out]; rfl, hB⟩
 ·have hf : decide (xs = ys) = false := by
   apply decide_eq_false
   rintro rfl
   exact hn (hx.len.symm.trans hy.len)
  have HF := hI hf; clear hf
  have hne : ((n : Int) != (n' : Int)) = true := by simp; omega
  have HX := hI hx; clear hx
  have HY := hI hy; clear hy
  go_enter Tryz.func41, Tryz.ntmps41
  go_wp2
  go_ret
  exact ⟨by rw [HF.out]; rfl, bel⟩
end Go.Proofs.YtcpcojgmmpnkoaaGreatDoor

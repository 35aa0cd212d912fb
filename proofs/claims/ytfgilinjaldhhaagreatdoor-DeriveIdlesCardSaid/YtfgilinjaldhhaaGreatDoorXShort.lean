/-
  ablautlaw10.Short returns; nothing old is written.
-/
import Derived.Test.YtfgilinjaldhhaaGreatDoorG18
set_option linter.unusedVariables false
set_option linter.unusedSimpArgs false
set_option maxRecDepth 100000
set_option maxHeartbeats 4000000
namespace Go.Proofs.YtfgilinjaldhhaaGreatDoor
open Go.RowKit Go.Shelf
theorem short_c (A : Option Addr) (n c : Nat) (xss : List (List Snd)) (w : World) (hx : IsWords w A n c xss) : Calls Tryz.prog 26 #[.slice A n c] w (RetBool w) := by
 have hm := hx.max
 have HX := hI hx; clear hx
 go_enter Tryz.func26, Tryz.ntmps26
 go_wp2
 go_loopw [3] (fun vi wr => ∃ j : Nat, vi = .int .i64 j ∧ j ≤ n ∧ Below w.heap.size w wr) (fun vi _ => n - (intOf vi).toNat)
 case atStart => exact ⟨0, rfl, Nat.zero_le _, Below.refl _ _⟩
 case round =>
  obtain ⟨j, rfl, hj, hB⟩ := hrel
  by_cases hlt : j < n
  ·obtain ⟨b, off, Aj, nj, cj, xj, rfl, hb, hc, hxj, hwj⟩ := (HX.out.below hB rr).at_ hlt
   have hj1 : (j : Int) < (n : Int) := by omega
   by_cases h1 : 100 < nj
   ·go_wp2
    go_ret
    exact ⟨⟨false, rfl⟩, hB⟩
   ·go_wp2
    go_roundw
    case rel => exact ⟨j + 1, by go_num, by omega, hB⟩
    case measure => simp [intOf]; omega
  ·obtain rfl : j = n := by omega
   have hj1 : ¬ ((j : Int) < (j : Int)) := by omega
   go_wp2
   all_goals (go_ret; exact ⟨⟨_, rfl⟩, hB⟩)
end Go.Proofs.YtfgilinjaldhhaaGreatDoor

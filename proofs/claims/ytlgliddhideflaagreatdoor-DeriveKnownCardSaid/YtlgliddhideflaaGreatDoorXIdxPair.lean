/-
  slices.IndexFunc and slices.ContainsFunc over records of type api.Pair.
-/
import Derived.Test.YtlgliddhideflaaGreatDoorXPairs0
set_option linter.all false
set_option maxRecDepth 100000
set_option maxHeartbeats 4000000
namespace Go.Proofs.YtlgliddhideflaaGreatDoor
open Go.RowKit Go.Shelf
theorem idxPair_c (A : Option Addr) (n c : Nat) (xs : List PairR) (F : Nat) (lb : Array Value) (p : PairR → Bool) (w : World) (hx : Recs PairR.cells 2 w A n c xs) (hE : Enters Tryz.prog F)
  (hcall : ∀ W, Below w.heap.size w W → ∀ s ∈ xs, Calls Tryz.prog F (#[pairV s] ++ lb) W fun e W' => e = .returned (.bool (p s)) ∧ Below W.heap.size W W') :
  Calls Tryz.prog 149 #[.slice A n c, .func (.func F) #[] lb] w fun e w' => e = .returned (.int .i64 (idxM p xs)) ∧ Below w.heap.size w w' := by
 have hm : n ≤ 9223372036854775807 := by have h1 := hx.1.2.1; have h2 := hx.1.2.2.1; unfold maxLen at h2; omega
 have HX := hI hx; clear hx
 have HC := hI hcall; clear hcall
 unfold Enters at hE
 go_enter Tryz.func149, Tryz.ntmps149
 go_wp2
 go_loopw [5, 8] (fun _ i wr => ∃ k : Nat, k ≤ n ∧ i = .int .i64 k ∧ Hid ((xs.take k).any p = false) ∧ Below w.heap.size w wr) (fun _ i _ => n - (intOf i).toNat)
 case atStart => exact ⟨0, Nat.zero_le _, rfl, by simp [Hid], Below.refl _ _⟩
 case round =>
  obtain ⟨k, hk, rfl, HA, hB⟩ := hrel
  by_cases hlt : k < n
  ·obtain ⟨s, hxk⟩ : ∃ s, xs[k]? = some s := ⟨xs[k]'(by rw [HX.out.2]; exact hlt), List.getElem?_eq_getElem _⟩
   obtain ⟨b, off, rfl, hb, hcs⟩ := (HX.out.below hB rr).at_ PairR.len (by decide) hxk
   have hc0 := hcs 0 _ rfl
   have hc1 := hcs 1 _ rfl
   simp only [Nat.add_zero, ← Nat.add_assoc] at hc0 hc1
   clear hcs
   have HCALL := hI (HC.out wr hB s (List.mem_of_getElem? hxk))
   have HK := hI hxk; clear hxk
   by_cases hp : p s = true
   ·have hr := idxM_some p xs k s HK.out HA.out hp
    have HR := hI hr; clear hr
    have HP := hI hp; clear hp
    go_wp2_with fail
    refine HCALL.out.mono ?_
    rintro e w1 ⟨rfl, hb1⟩
    rw [HP.out]
    have hB1 := hB.trans (hb1.mono hB.size)
    clear hb1
    go_wp2
    go_ret
    exact ⟨by rw [HR.out]; rfl, hB1⟩
   ·have hp' : p s = false := by simpa using hp
    have HP := hI hp'; clear hp hp'
    go_wp2_with fail
    refine HCALL.out.mono ?_
    rintro e w1 ⟨rfl, hb1⟩
    rw [HP.out]
    have hB1 := hB.trans (hb1.mono hB.size)
    clear hb1
    go_wp2
    go_roundw
    case rel => exact ⟨k + 1, by omega, by go_num, by rw [take_snoc' xs k _ HK.out, List.any_append, HA.out]; simp [HP.out, Hid], hB1⟩
    case measure => simp [intOf]; omega
  ·obtain rfl : k = n := by omega
   have hr : idxM p xs = -1 := by
    have := HA.out
    rw [List.take_of_length_le (by rw [HX.out.2]; exact rr)] at this
    exact idxM_none p xs this
   have HR := hI hr; clear hr
   go_wp2
   go_ret
   exact ⟨by rw [HR.out]; rfl, hB⟩
theorem anyPair_c (A : Option Addr) (n c : Nat) (xs : List PairR) (F : Nat) (lb : Array Value) (p : PairR → Bool) (w : World) (hx : Recs PairR.cells 2 w A n c xs) (hE : Enters Tryz.prog F)
  (hcall : ∀ W, Below w.heap.size w W → ∀ s ∈ xs, Calls Tryz.prog F (#[pairV s] ++ lb) W fun e W' => e = .returned (.bool (p s)) ∧ Below W.heap.size W W') :
  Calls Tryz.prog 80 #[.slice A n c, .func (.func F) #[] lb] w fun e w' => e = .returned (.bool (xs.any p)) ∧ Below w.heap.size w w' := by
 have hcon := idxPair_c A n c xs F lb p w hx hE hcall
 have H := hI (idxM_any p xs)
 clear hx hcall hE
 go_enter Tryz.func80, Tryz.ntmps80
 go_wp2_with (go_at_call 149; refine hcon.mono ?_; rintro e w1 ⟨rfl, hb1⟩)
 go_ret
 refine ⟨?_, hb1⟩
 show Ending.returned (.bool (decide (0 ≤ idxM p xs))) = _
 rw [H.out]
end Go.Proofs.YtlgliddhideflaaGreatDoor

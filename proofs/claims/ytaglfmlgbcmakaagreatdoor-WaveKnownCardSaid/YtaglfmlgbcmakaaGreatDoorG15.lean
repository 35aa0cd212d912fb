/-
  ablautref02.Equal; slices of numbers.
-/
import Derived.Test.YtaglfmlgbcmakaaGreatDoorG13
set_option linter.all false
set_option maxRecDepth 100000
set_option maxHeartbeats 4000000
namespace Go.Proofs.YtaglfmlgbcmakaaGreatDoor
open Go.RowKit Go.Shelf
theorem rEqual_c (A A' : Option Addr) (n n' c c' : Nat) (xs ys : List Snd) (w : World) (hx : IsWord w A n c xs) (hy : IsWord w A' n' c' ys) :
  Calls Tryz.prog 87 #[.slice A n c, .slice A' n' c'] w fun e w' => e = .returned (.bool (decide (xs = ys))) ∧ Below w.heap.size w w' := by
 have hm := hx.max
 by_cases hn : n = n'
 ·subst hn
  have HX := hI hx; clear hx
  have HY := hI hy; clear hy
  go_enter Tryz.func87, Tryz.ntmps87
  go_wp2
  go_loopw [5] (fun i wr => ∃ k : Nat, k ≤ n ∧ i = .int .i64 k ∧ xs.take k = ys.take k ∧ Below w.heap.size w wr) (fun i _ => n - (intOf i).toNat)
  case atStart => exact ⟨0, Nat.zero_le _, rfl, by simp, bel⟩
  case round =>
   obtain ⟨k, hk, rfl, hall, hB⟩ := hrel
   have HA := hI hall; clear hall
   by_cases hlt : k < n
   ·obtain ⟨b, off, p, m, rfl, hb, hxk, hc0, hc1⟩ := (HX.out.below hB rr).at_ hlt
    obtain ⟨b', off', p', m', rfl, hb', hyk, hc0', hc1'⟩ := (HY.out.below hB rr).at_ hlt
    have HK := hI hxk; clear hxk
    have HK' := hI hyk; clear hyk
    go_wp2
    by_cases he : (p == p' && m == m') = true
    ·have hpe : p = p' ∧ m = m' := by simpa using he
     obtain ⟨rfl, rfl⟩ := hpe
     have HS := hI (take_snoc' xs k (p, m) HK.out)
     have HS' := hI (take_snoc' ys k (p, m) HK'.out)
     go_quiet (fail)
     go_wp2
     go_roundw
     case rel => exact ⟨k + 1, by omega, by go_num, by rw [HS.out, HS'.out, HA.out], bel⟩
     case measure => simp [intOf]; omega
    ·have hf : decide (xs = ys) = false := by
      apply decide_eq_false
      rintro rfl
      have := HK.out.symm.trans HK'.out
      simp only [Option.some.injEq, Prod.mk.injEq] at this
      simp [this] at he
     have HF := hI hf; clear hf
     by_cases h1 : p = p'
     ·subst h1
      have he1 : (m == m') = false := by simpa using he
      have he2 : (m != m') = true := by simp only [bne, he1]; rfl
      clear he
      go_quiet (fail)
      go_wp2
      go_ret
      exact ⟨by rw [HF.out]; rfl, bel⟩
     ·have he1 : (p == p') = false := by simpa using h1
      have he2 : (p != p') = true := by simp only [bne, he1]; rfl
      clear he h1
      go_quiet (fail)
      go_wp2
      go_ret
      exact ⟨by rw [HF.out]; rfl, bel⟩
   ·obtain rfl : k = n := by omega
    have hf : decide (xs = ys) = true := by
     apply decide_eq_true
     have := HA.out
     rwa [List.take_of_length_le (by rw [HX.out.len]; exact rr), List.take_of_length_le (by rw [HY.out.len]; exact rr)] at this
    have HF := hI hf; clear hf
    go_wp2
    go_ret
    exact ⟨by rw [HF.out]; rfl, hB⟩
 ·have hf : decide (xs = ys) = false := by
   apply decide_eq_false
   rintro rfl
   exact hn (hx.len.symm.trans hy.len)
  have HF := hI hf; clear hf
  have hne : ((n : Int) != (n' : Int)) = true := by simp; omega
  have HX := hI hx; clear hx
  have HY := hI hy; clear hy
  go_enter Tryz.func87, Tryz.ntmps87
  go_wp2
  go_ret
  exact ⟨by rw [HF.out]; rfl, bel⟩
def IsInts (w : World) (A : Option Addr) (n c : Nat) (l : List Int) : Prop := Cells w A n c 1 (l.map (Value.int .i64))
theorem IsInts.len {w : World} {A : Option Addr} {n c : Nat} {l : List Int} (h : IsInts w A n c l) : l.length = n := by have := h.1; simpa using this
theorem IsInts.below {w w' : World} {A : Option Addr} {n c : Nat} {l : List Int} (h : IsInts w A n c l) {B : Nat} (hb : Below B w w') (hB : w.heap.size ≤ B) : IsInts w' A n c l := Cells.below h hb hB
theorem IsInts.max {w : World} {A : Option Addr} {n c : Nat} {l : List Int} (h : IsInts w A n c l) : n ≤ c ∧ c ≤ 9223372036854775807 := by have h1 := h.2.1; have h2 := h.2.2.1; unfold maxLen at h2; omega
theorem IsInts.at_ {w : World} {A : Option Addr} {n c : Nat} {l : List Int} (h : IsInts w A n c l) {k : Nat} (hk : k < n) : ∃ b off x, A = some ⟨b, off, none⟩ ∧ b < w.heap.size ∧ w.cell? ⟨b, off + k, none⟩ = some (.int .i64 x) ∧ l[k]? = some x := by
 obtain ⟨b, off, v, hA, hb, hv, hc⟩ := h.at1 hk
 rw [List.getElem?_map] at hv
 cases hl : l[k]? with
 | none => rw [hl] at hv; cases hv
 | some x =>
  rw [hl] at hv
  obtain rfl : Value.int .i64 x = v := by simpa using hv
  exact ⟨b, off, x, hA, hb, hc, rfl⟩
end Go.Proofs.YtaglfmlgbcmakaaGreatDoor

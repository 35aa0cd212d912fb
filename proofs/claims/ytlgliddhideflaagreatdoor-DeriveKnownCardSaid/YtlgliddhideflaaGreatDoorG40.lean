/-
  Records of one's own row are written over.
-/
import Derived.Test.YtlgliddhideflaaGreatDoorG34
set_option linter.all false
set_option maxRecDepth 100000
set_option maxHeartbeats 4000000
namespace Go.Proofs.YtlgliddhideflaaGreatDoor
open Go.RowKit Go.Shelf
theorem take_mid {α : Type} (L e : List α) (a m : Nat) (h1 : a + e.length ≤ m) (h2 : m ≤ L.length) :
  (L.take a ++ e ++ L.drop (a + e.length)).take m = (L.take m).take a ++ e ++ (L.take m).drop (a + e.length) := by
 have hl : (L.take a ++ e).length = a + e.length := by rw [List.length_append, List.length_take]; omega
 rw [List.take_append, List.take_of_length_le (l := L.take a ++ e) (by omega), hl, List.take_take, Nat.min_eq_left (by omega : a ≤ m), List.drop_take]
theorem own_set {α : Type} {enc : α → List Value} {sz : Nat} (henc : ∀ x, (enc x).length = sz) {w : World} {base : Nat} {e : TypeId} {g n c : Nat} {xs : List α} (h : w.ownsRow base e sz (.slice (some ⟨g, 0, none⟩) n c) n (xs.flatMap enc))
  (hsz : 0 < sz) {k : Nat} (hk : k < n) (x : α) : (w.setCells g (k * sz) (enc x)).ownsRow base e sz (.slice (some ⟨g, 0, none⟩) n c) n ((xs.set k x).flatMap enc) := by
 obtain ⟨h1, h2⟩ := h
 have hxl : xs.length = n := by rw [flat_len enc sz henc] at h1; exact Nat.eq_of_mul_eq_mul_right hsz h1
 refine ⟨by rw [flat_len enc sz henc, List.length_set, hxl], ?_⟩
 rcases h2 with ⟨_, hn⟩ | ⟨g', cap, cur, hv, hb, hg, hnc, hcm, hcs, ht⟩
 ·omega
 ·injection hv with hA _ hc
  injection hA with hA
  injection hA with hA
  subst hA hc
  have hkm : k * sz + sz ≤ n * sz := by rw [← Nat.succ_mul]; exact Nat.mul_le_mul_right _ hk
  have hnm : n * sz ≤ c * sz := Nat.mul_le_mul_right _ hnc
  obtain ⟨cur', q1, q2, q3⟩ := heap_setCells_same g e (0, 0) (enc x) (k * sz) w cur hg (by rw [henc]; omega)
  refine Or.inr ⟨g, c, cur', rfl, hb, q1, hnc, hcm, by omega, ?_⟩
  rw [q3, take_mid _ _ _ _ (by rw [henc]; exact hkm) (by rw [Array.length_toList]; omega), ht, henc]
  rw [List.set_eq_take_append_cons_drop, if_pos (by omega), List.flatMap_append, List.flatMap_cons, ← flat_take enc sz henc, ← flat_drop enc sz henc, Nat.succ_mul, List.append_assoc]
theorem own_thereL {w : World} {base : Nat} {e : TypeId} {sz g n c : Nat} {xs : List Value} (h : w.ownsRow base e sz (.slice (some ⟨g, 0, none⟩) n c) n xs) {k : Nat} (hk : k < n) : w.there g (k * sz) sz := by
 rcases h.2 with ⟨_, hn⟩ | ⟨g', cap, cur, hv, hb, hg, hnc, hcm, hcs, ht⟩
 ·omega
 ·injection hv with hA _ hc
  injection hA with hA
  injection hA with hA
  subst hA hc
  have hkm : k * sz + sz ≤ c * sz := by rw [← Nat.succ_mul]; exact Nat.mul_le_mul_right _ (by omega)
  intro j hj
  have hlt : k * sz + j < cur.size := by omega
  refine ⟨?_, frozen_of_row w g _ _ _ hg⟩
  rw [cell_at_heap hg (Array.getElem?_eq_getElem hlt)]; rfl
section
variable {ops : Array Oper} {rest : List Oper} {op : Oper} {ac : Act} {w : World} {Q : Exit → Act → World → Prop}
end
end Go.Proofs.YtlgliddhideflaaGreatDoor

/-
  What the places say to which laws can be moved, in plain words.
-/
import Derived.Test.YtgfjlflbhipliaaGreatDoorG42
import Derived.Test.YtgfjlflbhipliaaGreatDoorG13
set_option linter.unusedVariables false
set_option linter.unusedSimpArgs false
set_option maxRecDepth 100000
set_option maxHeartbeats 4000000
namespace Go.Proofs.YtgfjlflbhipliaaGreatDoor
open Go.RowKit Go.Shelf
def PlaceP (ls : List LawD) (wss : List (List Snd)) (i p : Nat) : Prop := p ≤ i ∧ (∀ q, p ≤ q → q ≤ i → sameTo ls (moved ls i q) wss) ∧ ∀ q, q + 1 = p → elseTo ls (moved ls i q) wss
theorem blocks_go {ls : List LawD} {wss : List (List Snd)} (h : lawsE ls = 0) (hw : ∀ ws ∈ wss, wcheck ws = 0) (ha : allOK ls wss) : ∀ (n i : Nat) (dn : List Nat), i + n = ls.length →
  (blocksGo ls wss n i dn = (11, [])) ∨ ∃ ps, blocksGo ls wss n i dn = (0, dn ++ ps) ∧ ps.length = n ∧ ∀ k p, ps[k]? = some p → PlaceP ls wss (i + k) p
 | 0, i, dn, _ => .inr ⟨[], by simp [blocksGo], rfl, fun k p hk => by simp at hk⟩
 | n + 1, i, dn, hn => by
  rw [blocksGo]
  rcases place_cases h hw (by omega : i < ls.length) ha i rr with h1 | ⟨p, h1, h2, h3, h4⟩
  ·rw [h1, if_pos (by decide)]; exact .inl rfl
  ·rw [h1, if_neg (by simp)]
   rcases blocks_go h hw ha n (i + 1) (dn ++ [p]) (by omega) with h5 | ⟨ps, h5, h6, h7⟩
   ·exact .inl h5
   ·refine .inr ⟨p :: ps, by rw [h5]; simp, by simp [h6], fun k q hq => ?_⟩
    cases k with
    | zero =>
     obtain rfl : p = q := by simpa using hq
     refine ⟨by omega, fun r hr1 hr2 => ?_, fun r hr => h4 r hr⟩
     rcases Nat.lt_or_ge r i with h8 | h8
     ·exact h3 r hr1 h8
     ·obtain rfl : r = i + 0 := by omega
      rw [Nat.add_zero, moved_self (by omega)]
      exact ⟨ha, rfl⟩
    | succ k =>
     have := h7 k q (by simpa using hq)
     rwa [show i + 1 + k = i + (k + 1) by omega] at this
theorem blocks_cases (ls : List LawD) (wss : List (List Snd)) :
  (∃ e, e ≠ 0 ∧ blocksM ls wss = (e, [])) ∨ ∃ ps, blocksM ls wss = (0, ps) ∧ ps.length = ls.length ∧ lawsE ls = 0 ∧ (∀ ws ∈ wss, wcheck ws = 0) ∧ allOK ls wss ∧ ∀ k p, ps[k]? = some p → PlaceP ls wss k p := by
 unfold blocksM
 by_cases hc : chkM ls wss = 0
 case neg => rw [if_pos hc]; exact .inl ⟨_, hc, rfl⟩
 rw [if_neg (by simpa using hc)]
 have hl := chk_laws hc
 have hw := (chk_all hc).2
 rcases outs_cases hl hw with ⟨h1, h2⟩ | ⟨h1, h2⟩
 ·rw [h1, if_pos (by decide)]; exact .inl ⟨11, by decide, rfl⟩
 ·rw [h1, if_neg (by simp)]
  rcases blocks_go hl hw h2 ls.length 0 [] (by omega) with h3 | ⟨ps, h3, h4, h5⟩
  ·exact .inl ⟨11, by decide, h3⟩
  ·refine .inr ⟨ps, by rw [h3]; simp, h4, hl, hw, h2, fun k p hk => ?_⟩
   have := h5 k p hk
   rwa [Nat.zero_add] at this
theorem place_at {ls : List LawD} {wss : List (List Snd)} {i p q : Nat} (h : PlaceP ls wss i p) (h1 : p ≤ q + 1) (h2 : q ≤ i) : allOK (moved ls i q) wss ∧ (endsL ls wss = endsL (moved ls i q) wss ↔ p ≤ q) := by
 rcases Nat.lt_or_ge q p with h3 | h3
 ·have := h.2.2 q (by omega)
  exact ⟨this.1, fun e => absurd e this.2, fun e => by omega⟩
 ·have := h.2.1 q h3 h2
  exact ⟨this.1, fun _ => h3, fun _ => this.2⟩
theorem ends_ext {ls ls' : List LawD} {wss : List (List Snd)} : endsL ls wss = endsL ls' wss ↔ ∀ j, j < wss.length → (endsL ls wss).getD j [] = (endsL ls' wss).getD j [] := by
 constructor
 ·intro h j _; rw [h]
 ·intro h
  have hd : diffN (endsL ls wss) (endsL ls' wss) = none := by
   unfold diffN
   rw [List.find?_eq_none]
   intro j hj
   have := h j (by simpa [endsL] using hj)
   rw [this]
   simp
  exact (diffN_eq (by simp [endsL])).1 hd
def moP (xs : List LawR) (s : LawR) (i t k : Nat) : List LawR := xs.take t ++ (s :: ((xs.take (min k i)).drop t ++ (xs.take k).drop (i + 1)))
theorem moP_start {xs : List LawR} {s : LawR} {i t : Nat} (ht : t ≤ i) : moP xs s i t t = xs.take t ++ [s] := by
 unfold moP
 rw [show min t i = t by omega, List.drop_eq_nil_of_le (by rw [List.length_take]; omega), List.drop_eq_nil_of_le (by rw [List.length_take]; omega)]; rfl
theorem moP_same {xs : List LawR} {s : LawR} {i t : Nat} : moP xs s i t (i + 1) = moP xs s i t i := by
 unfold moP
 rw [show min (i + 1) i = i by omega, show min i i = i by omega, show (xs.take (i + 1)).drop (i + 1) = [] from List.drop_eq_nil_of_le (by rw [List.length_take]; omega), show (xs.take i).drop (i + 1) = [] from List.drop_eq_nil_of_le (by rw [List.length_take]; omega)]
theorem moP_step {xs : List LawR} {s x : LawR} {i t k : Nat} (ht : t ≤ i) (hk : xs[k]? = some x) (htk : t ≤ k) (hne : k ≠ i) : moP xs s i t (k + 1) = moP xs s i t k ++ [x] := by
 have hl := (List.getElem?_eq_some_iff.1 hk).1
 unfold moP
 rcases Nat.lt_or_gt_of_ne hne with hlt | hlt
 ·rw [show min (k + 1) i = k + 1 by omega, show min k i = k by omega, show (xs.take (k + 1)).drop (i + 1) = [] from List.drop_eq_nil_of_le (by rw [List.length_take]; omega), show (xs.take k).drop (i + 1) = [] from List.drop_eq_nil_of_le (by rw [List.length_take]; omega), take_snoc' xs k x hk, List.drop_append_of_le_length (by rw [List.length_take]; omega)]; simp
 ·rw [show min (k + 1) i = i by omega, show min k i = i by omega, take_snoc' xs k x hk, List.drop_append_of_le_length (by rw [List.length_take]; omega)]; simp
theorem moP_full {xs : List LawR} {s : LawR} {i t n : Nat} (hn : xs.length = n) (hi : xs[i]? = some s) (ht : t ≤ i) : moP xs s i t n = moved xs i t := by
 obtain ⟨h1, h2⟩ := List.getElem?_eq_some_iff.1 hi
 have hl : (xs.take i).length = i := by rw [List.length_take]; omega
 unfold moP moved
 rw [show min n i = i by omega, List.take_of_length_le (l := xs) (i := n) (by omega), List.take_append_of_le_length (by omega), List.take_take, Nat.min_eq_left ht, List.drop_append_of_le_length (by omega), List.drop_eq_getElem_cons h1, h2]
 rfl
end Go.Proofs.YtgfjlflbhipliaaGreatDoor

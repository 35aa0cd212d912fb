/-
  A list of laws without one of them, place by place.
-/
import Derived.Test.YtcpcojgmmpnkoaaGreatDoorG13
set_option linter.unusedVariables false
set_option linter.unusedSimpArgs false
set_option maxRecDepth 100000
set_option maxHeartbeats 4000000
namespace Go.Proofs.YtcpcojgmmpnkoaaGreatDoor
open Go.RowKit Go.Shelf
def woAt (xs : List LawR) (k j : Nat) : List LawR := xs.take (min j k) ++ (xs.take j).drop (k + 1)
theorem woAt_step {xs : List LawR} {k j : Nat} {x : LawR} (h : xs[j]? = some x) (hne : j ≠ k) : woAt xs k (j + 1) = woAt xs k j ++ [x] := by
 have hl := (List.getElem?_eq_some_iff.1 h).1
 unfold woAt
 rcases Nat.lt_or_gt_of_ne hne with hlt | hlt
 ·rw [show min (j + 1) k = j + 1 by omega, show min j k = j by omega, List.drop_eq_nil_of_le (by rw [List.length_take]; omega), List.drop_eq_nil_of_le (by rw [List.length_take]; omega), take_snoc' xs j x h]; simp
 ·rw [show min (j + 1) k = k by omega, show min j k = k by omega, take_snoc' xs j x h, List.drop_append_of_le_length (by rw [List.length_take]; omega), List.append_assoc]
theorem woAt_same {xs : List LawR} {k : Nat} : woAt xs k (k + 1) = woAt xs k k := by
 unfold woAt
 rw [show min (k + 1) k = k by omega, show min k k = k by omega, List.drop_eq_nil_of_le (by rw [List.length_take]; omega), List.drop_eq_nil_of_le (by rw [List.length_take]; omega)]
theorem woAt_full {xs : List LawR} {k n : Nat} (hn : xs.length = n) (hk : k ≤ n) : woAt xs k n = xs.take k ++ xs.drop (k + 1) := by
 unfold woAt
 rw [show min n k = k by omega, List.take_of_length_le (l := xs) (i := n) (by omega)]
theorem woAt_len {xs : List LawR} {k j : Nat} : (woAt xs k j).length ≤ j := by
 unfold woAt
 rw [List.length_append, List.length_drop, List.length_take, List.length_take]; omega
end Go.Proofs.YtcpcojgmmpnkoaaGreatDoor

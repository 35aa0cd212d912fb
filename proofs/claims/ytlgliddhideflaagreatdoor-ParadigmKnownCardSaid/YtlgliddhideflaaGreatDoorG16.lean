/-
  How often each law is used: what is counted, word by word.
  derive.Used.
-/
import Derived.Deep.OwnRows
import Derived.Test.YtlgliddhideflaaGreatDoorG14
import Derived.Test.YtlgliddhideflaaGreatDoorG33
set_option linter.all false
set_option maxRecDepth 100000
set_option maxHeartbeats 4000000
namespace Go.Proofs.YtlgliddhideflaaGreatDoor
open Go.RowKit Go.Shelf
abbrev cntC (cnt : List Int) : Array Value := (cnt.map (Value.int .i64)).toArray
theorem made_cnt (n : Nat) : madeCells #[Value.int .i64 0] n = cntC (List.replicate n 0) := by
 apply Array.ext
 ·simp [size_madeCells]
 ·intro i h1 h2
  simp [madeCells, Nat.mod_one]
theorem cntC_set (cnt : List Int) (j : Nat) (x : Int) : (cntC cnt).setIfInBounds j (.int .i64 x) = cntC (cnt.set j x) := by simp [cntC, List.map_set]
theorem cntC_get {w : World} {g j : Nat} {cnt : List Int} {x : Int} {t : TypeId} (h : w.heap[g]? = some (.cells (cntC cnt) t (0, 0))) (hx : cnt[j]? = some x) : w.cell? ⟨g, j, none⟩ = some (.int .i64 x) :=
 cell_at_heap h (by simp [hx])
end Go.Proofs.YtlgliddhideflaaGreatDoor
namespace Go.Proofs.YtlgliddhideflaaGreatDoor
open Go.RowKit Go.Shelf
attribute [local go_sem] Oper.semAt_some
def RetNsE (w : World) (r : Int × List Int) (e : Ending) (w' : World) : Prop :=
 ∃ A n c, e = .returned (.tuple #[.slice A n c, .int .i64 r.1]) ∧ IsInts w' A n c r.2 ∧ Below w.heap.size w w'
theorem ints_row {w : World} {g n : Nat} {cnt : List Int} {t : TypeId} (h : w.heap[g]? = some (.cells (cntC cnt) t (0, 0))) (hl : cnt.length = n) (hn : n ≤ maxLen) : IsInts w (some ⟨g, 0, none⟩) n n cnt :=
 ⟨by simpa using hl, rr, hn, (fun h => by cases h), fun _ => ⟨g, 0, rfl, lt_of_block h, fun j v hv => by rw [Nat.zero_add]; exact cell_at_heap h (by simpa using hv)⟩⟩
end Go.Proofs.YtlgliddhideflaaGreatDoor

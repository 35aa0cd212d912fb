/-
  A word that make lays.
-/
import Derived.Test.YtlgliddhideflaaGreatDoorG06
set_option linter.all false
set_option maxRecDepth 100000
set_option maxHeartbeats 4000000
namespace Go.Proofs.YtlgliddhideflaaGreatDoor
open Go.RowKit Go.Shelf
def sndC (s : Snd) : List Value := [.int .u32 s.1, .int .u32 s.2]
theorem sndC_len (s : Snd) : (sndC s).length = 2 := rfl
theorem wcells_sndC : ∀ xs : List Snd, xs.flatMap sndC = wcells xs
 | [] => rfl
 | x :: xs => by rw [List.flatMap_cons, wcells_sndC xs]; rfl
theorem made_wcells (n : Nat) : madeCells #[Value.int .u32 0, .int .u32 0] (n * 2) = (wcells (List.replicate n (0, 0))).toArray := by
 rw [← wcells_sndC]
 apply Array.ext
 ·simp [size_madeCells, flat_len sndC 2 sndC_len]
 ·intro i h1 h2
  have hi : i < n * 2 := by simpa [size_madeCells] using h1
  have hz : (List.replicate n ((0, 0) : Snd))[i / 2]? = some (0, 0) := by rw [List.getElem?_replicate, if_pos (by omega)]
  rcases Nat.mod_two_eq_zero_or_one i with h | h
  ·have h3 := flat_at sndC 2 sndC_len _ (i / 2) (0, 0) hz 0 (.int .u32 0) rfl
   rw [show i / 2 * 2 + 0 = i by omega] at h3
   exact Eq.trans (by simp [madeCells, h]) ((List.getElem?_eq_some_iff.1 h3).2.symm.trans rfl)
  ·have h3 := flat_at sndC 2 sndC_len _ (i / 2) (0, 0) hz 1 (.int .u32 0) rfl
   rw [show i / 2 * 2 + 1 = i by omega] at h3
   exact Eq.trans (by simp [madeCells, h]) ((List.getElem?_eq_some_iff.1 h3).2.symm.trans rfl)
theorem run_make_word (n : Nat) (hn : n ≤ 4096) (w : World) : (Instr.makeSlice 32 (.int .i64 (n : Int)) (.int .i64 (n : Int))).run Tryz.prog w = .ok (.slice (some ⟨w.heap.size, 0, none⟩) n n) (w.alloc (.cells (wcells (List.replicate n (0, 0))).toArray 24)) := by
 obtain ⟨i, hi, hzz⟩ := Option.map_eq_some_iff.1 snd_info
 simp only [Prod.mk.injEq] at hzz
 obtain ⟨hz, hs, hb⟩ := hzz
 have hr := run_make (P := Tryz.prog) w 32 24 i _ Tryz.underlying32 hi hz .i64 .i64 n n (by omega) (Int.le_refl _) (by rw [hb]; omega) (by omega)
 rw [Int.toNat_natCast, hs] at hr
 rw [← made_wcells]
 exact hr
end Go.Proofs.YtlgliddhideflaaGreatDoor

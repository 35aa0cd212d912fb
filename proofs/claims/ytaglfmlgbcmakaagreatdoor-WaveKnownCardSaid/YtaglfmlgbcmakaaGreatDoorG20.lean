/-
  Arguments are read: slices of sounds, words, patterns, laws.
  What the listed variables give; the road from a walk to a row, for laws that answer true.
-/
import Derived.ProofKit
import Derived.Deep.Slices
import Derived.OpenShut
import Derived.LaidMore
import Derived.Lay
import Derived.Lib.LaidTab
import Derived.Stop.Joined
import Derived.Test.YtaglfmlgbcmakaaGreatDoorG13
import Derived.Test.YtaglfmlgbcmakaaGreatDoorRows
import Derived.Test.YtaglfmlgbcmakaaGreatDoorChecked
set_option linter.all false
set_option maxRecDepth 100000
set_option maxHeartbeats 4000000
namespace Go.Proofs.YtaglfmlgbcmakaaGreatDoor
open Go.RowKit Go.ChangeShapes Go.WideShapes
theorem addr_of_cell {w : World} {a : Addr} {v : Value} (h : w.cell? a = some v) : a = ⟨a.block, a.off, none⟩ ∧ a.block < w.heap.size := by
 unfold World.cell? at h
 split at h
 ·rename_i c t f hb
  split at h
  ·cases h
  ·rename_i hs
   obtain ⟨x, y, z⟩ := a
   cases z with
   | none => exact ⟨rfl, (Array.getElem?_eq_some_iff.1 hb).1⟩
   | some z => simp at hs
 ·cases h
section
variable {H : Type} {enc : TypeId × Value → H} {P : Program} {w : World} {base : Nat} {spare : Nat → Bool} {held : Bool}
end
section
variable {H : Type} {enc : TypeId × Value → H} {w : World} {base : Nat} {spare : Nat → Bool} {held : Bool}
set_option maxRecDepth 100000
structure PatR where
 k : Nd
 A : Option Addr
 c : Nat
 ch : Fo
def PatR.cells (p : PatR) : List Value := patCells p.k p.A p.ch.len p.c
end
end Go.Proofs.YtaglfmlgbcmakaaGreatDoor
namespace Go.Proofs.YtaglfmlgbcmakaaGreatDoor
open Go.RowKit Go.ChangeShapes Go.WideShapes Go.ChangeAt
theorem own_knob : ownKnob Tryz.prog.godebug = none := by kernel_rfl
def laid3 : List (String × DataW Unit) := [("math/bits.deBruijn64tab", Rows.laid_math_bits_deBruijn64tab), ("unicode/utf8.acceptRanges", Rows.laid_unicode_utf8_acceptRanges), ("unicode/utf8.first", Rows.laid_unicode_utf8_first)]
theorem g_tab : Tryz.prog.globalNamed "math/bits.deBruijn64tab" = some 3 := by kernel_rfl
theorem tab_of_laid {W : World} (h : laidMetH Tryz.prog laid3 W) : TabOK W := by
 rw [MakeChecks.laidMetH_plain _ _ _ (by kernel_rfl)] at h
 have h1 : laidMet Tryz.prog (("math/bits.deBruijn64tab", Lib.tabData .u8 (Lib.deBruijn64tab.map Int.ofNat)) :: laid3.tail) W := h
 have h2 := Lib.tabIs_of_head g_tab (show (Tryz.prog.globals[3]?).map (·.type) = some _ by kernel_rfl) Tryz.underlying287 Tryz.underlying5 (by kernel_rfl) (by kernel_rfl) h1
 have hc : ∀ j, j < 64 → W.cell? ⟨3, j, none⟩ = some (.int .u8 (Lib.deBruijn64tab.getD j 0)) := by
  intro j hj
  have := h2.cell g_tab j hj
  rw [this]
  have hl : Lib.deBruijn64tab.length = 64 := by kernel_rfl
  simp [List.getD, hl, hj]
 exact ⟨(addr_of_cell (hc 0 (by decide))).2, hc⟩
section
variable {H : Type} {enc : TypeId × Value → H} {w : World} {base : Nat} {spare : Nat → Bool} {held : Bool} {A : Option Addr} {n c : Nat} {d : DataW H} {p : List MemPlace}
end
end Go.Proofs.YtaglfmlgbcmakaaGreatDoor

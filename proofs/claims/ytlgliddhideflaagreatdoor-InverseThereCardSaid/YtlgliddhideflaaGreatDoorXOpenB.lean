/-
  Arguments that are bytes are read.
-/
import Derived.Test.YtlgliddhideflaaGreatDoorG53
import Derived.Test.YtlgliddhideflaaGreatDoorG74
set_option linter.all false
set_option maxRecDepth 100000
set_option maxHeartbeats 4000000
namespace Go.Proofs.YtlgliddhideflaaGreatDoor
open Go.RowKit Go.ChangeShapes Go.WideShapes
theorem u8_within' {a : Int} (h : (Lit.int .u8 a).wf = true) : 0 ≤ a ∧ a ≤ 255 := by
 simpa [Lit.wf, IntKind.min, IntKind.max, IntKind.signed, IntKind.bits] using h
theorem flatMap_ints {α : Type} (g : α → Value) : ∀ l : List α, (l.map fun x => [g x]).flatten = l.map g
 | [] => rfl
 | x :: l => by rw [List.map_cons, List.flatten_cons, flatMap_ints g l]; rfl
section
variable {H : Type} {enc : TypeId × Value → H} {w : World} {base : Nat} {spare : Nat → Bool} {held : Bool}
set_option maxRecDepth 100000
theorem byte_rowU {fuel : Nat} {r : List Value} {x : DataW H × List MemPlace} (h : DataW.trod enc Tryz.prog w base spare held fuel 5 r = some x) : ∃ k : Nat, r = [.int .u8 (k : Int)] ∧ k < 256 := by
 obtain ⟨p, e0, _, w0⟩ := DataW.trod_int Tryz.underlying5 h
 obtain ⟨h0, h1⟩ := u8_within' w0
 obtain ⟨k, rfl⟩ : ∃ k : Nat, p = k := ⟨p.toNat, by omega⟩
 exact ⟨k, e0, by omega⟩
end
section
variable {H : Type} {enc : TypeId × Value → H} {w : World} {base : Nat} {spare : Nat → Bool} {held : Bool} {A : Option Addr} {n c : Nat} {d : DataW H} {p : List MemPlace}
theorem c_byte : Tryz.prog.cellsOf 5 = 1 := by kernel_rfl
set_option maxRecDepth 100000
theorem open_bytes (h : DataW.Trod enc Tryz.prog w base spare held 101 (.slice A n c) d p) : ∃ xs, IsBytes w A n c xs := by
 obtain ⟨_, hf⟩ := h
 obtain ⟨A', n', c', m, L, e, hL, hc, hr⟩ := open_rows Tryz.underlying101 (by rw [c_byte]; decide) hf
 simp [Value.cells] at e
 obtain ⟨rfl, rfl, rfl⟩ := e
 obtain ⟨xs, rfl, hq⟩ := rows_are (g := fun k : Nat => [Value.int .u8 (k : Int)]) L (fun r hr' => byte_rowU (hr r hr').2.2.choose_spec)
 rw [c_byte, flatMap_ints] at hc
 exact ⟨xs, hc, hq⟩
end
end Go.Proofs.YtlgliddhideflaaGreatDoor

/-
  Slices of numbers of 32 and of 8 bits.
  Arguments that are numbers of 32 bits, or bytes, are read.
-/
import Derived.Test.YtcpcojgmmpnkoaaGreatDoorG15
import Derived.Test.YtcpcojgmmpnkoaaGreatDoorG53
set_option linter.all false
set_option maxRecDepth 100000
set_option maxHeartbeats 4000000
namespace Go.Proofs.YtcpcojgmmpnkoaaGreatDoor
open Go.RowKit Go.Shelf
def IsNums (w : World) (A : Option Addr) (n c : Nat) (l : List Nat) : Prop := Cells w A n c 1 (l.map fun x : Nat => Value.int .u32 (x : Int)) ∧ ∀ x ∈ l, x < 4294967296
def IsBytes (w : World) (A : Option Addr) (n c : Nat) (l : List Nat) : Prop := Cells w A n c 1 (l.map fun x : Nat => Value.int .u8 (x : Int)) ∧ ∀ x ∈ l, x < 256
section
variable {w w' : World} {A : Option Addr} {n c : Nat} {l : List Nat}
theorem IsNums.len (h : IsNums w A n c l) : l.length = n := by have := h.1.1; simpa using this
theorem IsNums.below (h : IsNums w A n c l) {B : Nat} (hb : Below B w w') (hB : w.heap.size ≤ B) : IsNums w' A n c l := ⟨Cells.below h.1 hb hB, h.2⟩
theorem IsNums.max (h : IsNums w A n c l) : n ≤ c ∧ c ≤ 9223372036854775807 := by have h1 := h.1.2.1; have h2 := h.1.2.2.1; unfold maxLen at h2; omega
theorem IsNums.at_ (h : IsNums w A n c l) {k : Nat} (hk : k < n) : ∃ b off x, A = some ⟨b, off, none⟩ ∧ b < w.heap.size ∧ l[k]? = some x ∧ x < 4294967296 ∧ w.cell? ⟨b, off + k, none⟩ = some (.int .u32 (x : Nat)) := by
 obtain ⟨b, off, hA, hb, hc⟩ := h.1.2.2.2.2 (by omega)
 have hx : l[k]? = some (l[k]'(by rw [h.len]; exact hk)) := List.getElem?_eq_getElem _
 exact ⟨b, off, _, hA, hb, hx, h.2 _ (List.mem_of_getElem? hx), hc k _ (by rw [List.getElem?_map, hx]; rfl)⟩
theorem IsBytes.len (h : IsBytes w A n c l) : l.length = n := by have := h.1.1; simpa using this
theorem IsBytes.below (h : IsBytes w A n c l) {B : Nat} (hb : Below B w w') (hB : w.heap.size ≤ B) : IsBytes w' A n c l := ⟨Cells.below h.1 hb hB, h.2⟩
theorem IsBytes.max (h : IsBytes w A n c l) : n ≤ c ∧ c ≤ 9223372036854775807 := by have h1 := h.1.2.1; have h2 := h.1.2.2.1; unfold maxLen at h2; omega
theorem IsBytes.at_ (h : IsBytes w A n c l) {k : Nat} (hk : k < n) : ∃ b off x, A = some ⟨b, off, none⟩ ∧ b < w.heap.size ∧ l[k]? = some x ∧ x < 256 ∧ w.cell? ⟨b, off + k, none⟩ = some (.int .u8 (x : Nat)) := by
 obtain ⟨b, off, hA, hb, hc⟩ := h.1.2.2.2.2 (by omega)
 have hx : l[k]? = some (l[k]'(by rw [h.len]; exact hk)) := List.getElem?_eq_getElem _
 exact ⟨b, off, _, hA, hb, hx, h.2 _ (List.mem_of_getElem? hx), hc k _ (by rw [List.getElem?_map, hx]; rfl)⟩
end
end Go.Proofs.YtcpcojgmmpnkoaaGreatDoor
namespace Go.Proofs.YtcpcojgmmpnkoaaGreatDoor
open Go.RowKit Go.ChangeShapes Go.WideShapes
theorem u8_within' {a : Int} (h : (Lit.int .u8 a).wf = true) : 0 ≤ a ∧ a ≤ 255 := by
 simpa [Lit.wf, IntKind.min, IntKind.max, IntKind.signed, IntKind.bits] using h
theorem flatMap_ints {α : Type} (g : α → Value) : ∀ l : List α, (l.map fun x => [g x]).flatten = l.map g
 | [] => rfl
 | x :: l => by rw [List.map_cons, List.flatten_cons, flatMap_ints g l]; rfl
section
variable {H : Type} {enc : TypeId × Value → H} {w : World} {base : Nat} {spare : Nat → Bool} {held : Bool}
set_option maxRecDepth 100000
theorem num_rowU {fuel : Nat} {r : List Value} {x : DataW H × List MemPlace} (h : DataW.trod enc Tryz.prog w base spare held fuel 22 r = some x) : ∃ k : Nat, r = [.int .u32 (k : Int)] ∧ k < 4294967296 := by
 obtain ⟨p, e0, _, w0⟩ := DataW.trod_int Tryz.underlying22 h
 obtain ⟨h0, h1⟩ : 0 ≤ p ∧ p ≤ 4294967295 := u32_within w0
 obtain ⟨k, rfl⟩ : ∃ k : Nat, p = k := ⟨p.toNat, by omega⟩
 exact ⟨k, e0, by omega⟩
theorem byte_rowU {fuel : Nat} {r : List Value} {x : DataW H × List MemPlace} (h : DataW.trod enc Tryz.prog w base spare held fuel 5 r = some x) : ∃ k : Nat, r = [.int .u8 (k : Int)] ∧ k < 256 := by
 obtain ⟨p, e0, _, w0⟩ := DataW.trod_int Tryz.underlying5 h
 obtain ⟨h0, h1⟩ := u8_within' w0
 obtain ⟨k, rfl⟩ : ∃ k : Nat, p = k := ⟨p.toNat, by omega⟩
 exact ⟨k, e0, by omega⟩
end
section
variable {H : Type} {enc : TypeId × Value → H} {w : World} {base : Nat} {spare : Nat → Bool} {held : Bool} {A : Option Addr} {n c : Nat} {d : DataW H} {p : List MemPlace}
theorem c_byte : Tryz.prog.cellsOf 5 = 1 := by kernel_rfl
set_option maxRecDepth 100000
theorem open_nums (h : DataW.Trod enc Tryz.prog w base spare held 102 (.slice A n c) d p) : ∃ xs, IsNums w A n c xs := by
 obtain ⟨_, hf⟩ := h
 obtain ⟨A', n', c', m, L, e, hL, hc, hr⟩ := open_rows Tryz.underlying102 (by rw [c_u32]; decide) hf
 simp [Value.cells] at e
 obtain ⟨rfl, rfl, rfl⟩ := e
 obtain ⟨xs, rfl, hq⟩ := rows_are (g := fun k : Nat => [Value.int .u32 (k : Int)]) L (fun r hr' => num_rowU (hr r hr').2.2.choose_spec)
 rw [c_u32, flatMap_ints] at hc
 exact ⟨xs, hc, hq⟩
theorem open_bytes (h : DataW.Trod enc Tryz.prog w base spare held 105 (.slice A n c) d p) : ∃ xs, IsBytes w A n c xs := by
 obtain ⟨_, hf⟩ := h
 obtain ⟨A', n', c', m, L, e, hL, hc, hr⟩ := open_rows Tryz.underlying105 (by rw [c_byte]; decide) hf
 simp [Value.cells] at e
 obtain ⟨rfl, rfl, rfl⟩ := e
 obtain ⟨xs, rfl, hq⟩ := rows_are (g := fun k : Nat => [Value.int .u8 (k : Int)]) L (fun r hr' => byte_rowU (hr r hr').2.2.choose_spec)
 rw [c_byte, flatMap_ints] at hc
 exact ⟨xs, hc, hq⟩
end
end Go.Proofs.YtcpcojgmmpnkoaaGreatDoor

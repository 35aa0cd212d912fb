/-
  Arguments that are words are read, with the ranges of their numbers.
-/
import Derived.Test.YtcpcojgmmpnkoaaGreatDoorG23
import Derived.Test.YtcpcojgmmpnkoaaGreatDoorG20
set_option linter.all false
set_option maxRecDepth 100000
set_option maxHeartbeats 4000000
namespace Go.Proofs.YtcpcojgmmpnkoaaGreatDoor
open Go.RowKit Go.ChangeShapes Go.WideShapes
theorem u32_within {a : Int} (h : (Lit.int .u32 a).wf = true) : U32 a := by
 simpa [U32, Lit.wf, IntKind.min, IntKind.max, IntKind.signed, IntKind.bits] using h
section
variable {H : Type} {enc : TypeId × Value → H} {w : World} {base : Nat} {spare : Nat → Bool} {held : Bool}
set_option maxRecDepth 100000
theorem sound_rowU {fuel : Nat} {r : List Value} {x : DataW H × List MemPlace} (h : DataW.trod enc Tryz.prog w base spare held fuel 24 r = some x) : ∃ s : Snd, r = sndCs s ∧ SndU s := by
 obtain ⟨n, _, hl, hf⟩ := open_fields Tryz.underlying24 h
 rw [c_snd] at hl
 match r, hl with
 | [c0, c1], _ =>
  simp only [List.mem_cons, forall_eq_or_imp, List.not_mem_nil, false_implies, implies_true, and_true, c_u32, List.drop_zero, List.drop_succ_cons, List.take_succ_cons, List.take_zero] at hf
  obtain ⟨⟨_, h0⟩, ⟨_, h1⟩⟩ := hf
  obtain ⟨p, e0, _, w0⟩ := DataW.trod_int Tryz.underlying22 h0
  obtain ⟨m, e1, _, w1⟩ := DataW.trod_int Tryz.underlying22 h1
  obtain rfl : c0 = .int .u32 p := by simpa using e0
  obtain rfl : c1 = .int .u32 m := by simpa using e1
  exact ⟨(p, m), rfl, u32_within w0, u32_within w1⟩
theorem open_word0U {fuel : Nat} {cs : List Value} {x : DataW H × List MemPlace} (h : DataW.trod enc Tryz.prog w base spare held fuel 32 cs = some x) : ∃ A n c xs, cs = [.slice A n c] ∧ IsWord w A n c xs ∧ WordU xs := by
 obtain ⟨A, n, c, m, L, rfl, hL, hc, hr⟩ := open_rows Tryz.underlying32 (by rw [c_snd]; decide) h
 obtain ⟨xs, rfl, hq⟩ := rows_are (g := sndCs) L (fun r hr' => sound_rowU (hr r hr').2.2.choose_spec)
 rw [c_snd, wcells_flat] at hc
 exact ⟨A, n, c, xs, rfl, hc, hq⟩
end
section
variable {H : Type} {enc : TypeId × Value → H} {w : World} {base : Nat} {spare : Nat → Bool} {held : Bool} {A : Option Addr} {n c : Nat} {d : DataW H} {p : List MemPlace}
end
end Go.Proofs.YtcpcojgmmpnkoaaGreatDoor

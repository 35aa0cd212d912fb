/-
  A word that does not lie in a row of one's own.
-/
import Derived.Test.YtlgliddhideflaaGreatDoorG21
set_option linter.all false
set_option maxRecDepth 100000
set_option maxHeartbeats 4000000
namespace Go.Proofs.YtlgliddhideflaaGreatDoor
open Go.RowKit Go.Shelf
def Aside (B : Nat) (v : Value) (w : World) (p : Part) : Prop := IsWord w p.1 p.2.1 p.2.2.1 p.2.2.2 ∧ ∀ ad, p.1 = some ad → B ≤ ad.block ∧ (0 < p.2.1 → ¬ v.ownBlock = some ad.block)
theorem Aside.below {B : Nat} {v : Value} {w w' : World} {p : Part} (h : Aside B v w p) (hb : Below w.heap.size w w') : Aside B v w' p := ⟨h.1.below hb rr, h.2⟩
theorem Aside.grown {B : Nat} {v v' : Value} {w X : World} {p : Part} (h : Aside B v w p) (hg : w.grownBy X v.ownBlock) (hat : v'.ownBlock = v.ownBlock ∨ v'.ownBlock = some w.heap.size) : Aside B v' X p := by
 have hlt : 0 < p.2.1 → ∀ ad, p.1 = some ad → ad.block < w.heap.size := by
  intro hn ad had
  obtain ⟨b, off, hb, hlt, _⟩ := h.1.2.2.2.2 hn
  rw [had] at hb
  injection hb with hb
  subst hb
  exact hlt
 refine ⟨h.1.keep (S := fun k => v.ownBlock = some k) ((Keep.refl (fun k => v.ownBlock = some k) w).grown hg (fun k e => .inl e)) fun hn ad had e => (h.2 ad had).2 hn e, fun ad had => ⟨(h.2 ad had).1, fun hn e => ?_⟩⟩
 rcases hat with e' | e'
 ·exact (h.2 ad had).2 hn (e' ▸ e)
 ·rw [e'] at e; injection e with e; have := hlt hn ad had; omega
end Go.Proofs.YtlgliddhideflaaGreatDoor

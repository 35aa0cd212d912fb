/-
  ablautref10: Check.
  ablautref10: Forms.
-/
import Derived.Test.YtlgliddhideflaaGreatDoorG27
set_option linter.all false
set_option maxRecDepth 100000
set_option maxHeartbeats 4000000
namespace Go.Proofs.YtlgliddhideflaaGreatDoor
open Go.RowKit Go.Shelf
end Go.Proofs.YtlgliddhideflaaGreatDoor
namespace Go.Proofs.YtlgliddhideflaaGreatDoor
open Go.RowKit Go.Shelf
attribute [local go_sem] Oper.semAt_some
theorem stepM_u {l : LawD} {ws : List Snd} {r : RS} (hw : WordU ws) (hn : WordU r.now) : WordU (stepM l ws r).2.now ∧ ∀ x, (stepM l ws r).1 = some x → WordU x.2 := by
 unfold stepM
 split
 ·split
  ·have : WordU (r.now.take (r.at_ + r.shift).toNat ++ putM l ((ws.drop r.at_.toNat).take l.ifs.length) ++ ws.drop (r.at_.toNat + l.ifs.length)) := ((hn.take _).append (putM_u l _)).append (hw.drop _)
   exact ⟨this, fun x hx => by obtain rfl := Option.some.inj hx; exact this⟩
  ·exact ⟨hn, fun x hx => by cases hx⟩
 ·split
  ·split
   ·exact ⟨replaceM_u hn, fun x hx => by obtain rfl := Option.some.inj hx; exact replaceM_u hn⟩
   ·exact ⟨hn, fun x hx => by cases hx⟩
  ·split
   ·exact ⟨replaceM_u hn, fun x hx => by obtain rfl := Option.some.inj hx; exact replaceM_u hn⟩
   ·exact ⟨hn, fun x hx => by cases hx⟩
theorem runM_u {l : LawD} {ws : List Snd} (hw : WordU ws) : ∀ (f : Nat) (r : RS), WordU r.now → ∀ x ∈ (runM l ws f r).1, WordU x.2
 | 0, _, _, x, h => by simp [runM] at h
 | f + 1, r, hn, x, h => by
  have hs := stepM_u (l := l) (r := r) hw hn
  rw [runM] at h
  split at h
  ·simp at h
  ·split at h
   ·rename_i r' he
    rw [he] at hs
    exact runM_u hw f _ hs.1 x h
   ·rename_i p now r' he
    rw [he] at hs
    split at h
    ·simp at h
    ·simp only [List.mem_cons] at h
     rcases h with rfl | h
     ·exact hs.2 _ rfl
     ·exact runM_u hw f _ hs.1 x h
theorem applyM_u {l : LawD} {ws : List Snd} (hw : WordU ws) : WordU (applyM l ws).2 := by
 unfold applyM
 split
 ·intro s hs; simp at hs
 ·have hn : WordU (startM l ws).now := by unfold startM; split <;> exact hw
  dsimp only
  split
  ·rename_i x hx
   have h1 := List.mem_of_getLast? hx
   unfold traceM at h1
   split at h1
   ·simp at h1
   ·split at h1
    ·simp at h1
    ·exact runM_u hw _ _ hn x h1
  ·exact hw
def RetWsF (w : World) (r : Int × List (List Snd)) (e : Ending) (w' : World) : Prop :=
 ∃ A n c, ∃ ps : List Part, e = .returned (.tuple #[.slice A n c, .int .i64 r.1]) ∧ ps.map Part.word = r.2 ∧ Cells w' A n c 1 (ps.map Part.val) ∧ Parts w' ps ∧ (∀ p ∈ ps, ∀ ad, p.1 = some ad → w.heap.size ≤ ad.block) ∧ Below w.heap.size w w'
theorem RetWsF.plain {w : World} {r : Int × List (List Snd)} {e : Ending} {w' : World} (h : RetWsF w r e w') : RetWsE w r e w' := by
 obtain ⟨A, n, c, ps, h1, h2, h3, h4, _, h6⟩ := h
 exact ⟨A, n, c, h1, ⟨ps, h2, h3, h4⟩, h6⟩
end Go.Proofs.YtlgliddhideflaaGreatDoor

/-
  ablautref08: Name, fits.
  ablautref08: Check, check.
  ablautref08: put.
  ablautref08: replace.
  ablautref08: Hit.
-/
import Derived.Laws.OwnMore
import Derived.Test.YtlgliddhideflaaGreatDoorG25
set_option linter.all false
set_option maxRecDepth 100000
set_option maxHeartbeats 4000000
namespace Go.Proofs.YtlgliddhideflaaGreatDoor
open Go.RowKit Go.Shelf
end Go.Proofs.YtlgliddhideflaaGreatDoor
namespace Go.Proofs.YtlgliddhideflaaGreatDoor
open Go.RowKit Go.Shelf
attribute [local go_sem] Oper.semAt_some
end Go.Proofs.YtlgliddhideflaaGreatDoor
namespace Go.Proofs.YtlgliddhideflaaGreatDoor
open Go.RowKit Go.Shelf
attribute [local go_sem] Oper.semAt_some
theorem u32_nat (x : BitVec 32) : U32 ((x.toNat : Nat) : Int) := ⟨by omega, by have := x.isLt; omega⟩
theorem mixI_u (s f set : Int) : U32 (mixI s f set) := by unfold mixI; rw [or_bv]; exact u32_nat _
theorem u32_0 : U32 0 := ⟨by omega, by omega⟩
theorem changeM_u (s : Snd) (c : Int) (t : Snd) : SndU (changeM s c t) := by
 unfold changeM
 split
 ·exact ⟨mixI_u _ _ _, mixI_u _ _ _⟩
 ·exact ⟨u32_0, u32_0⟩
theorem takeM_u (s t : Snd) (m : Int) : SndU (takeM s t m) := by
 unfold takeM
 split
 ·exact ⟨mixI_u _ _ _, mixI_u _ _ _⟩
 ·exact ⟨u32_0, u32_0⟩
theorem putS_u (cut : List Snd) (x : OutD) : SndU (putS cut x) := by
 unfold putS
 dsimp only
 split
 ·exact takeM_u _ _ _
 ·exact changeM_u _ _ _
theorem putM_u (l : LawD) (cut : List Snd) : WordU (putM l cut) := by
 intro s hs
 obtain ⟨x, _, rfl⟩ := List.mem_map.1 hs
 exact putS_u cut x
theorem WordU.take {ws : List Snd} (h : WordU ws) (k : Nat) : WordU (ws.take k) := fun s hs => h s (List.mem_of_mem_take hs)
theorem WordU.drop {ws : List Snd} (h : WordU ws) (k : Nat) : WordU (ws.drop k) := fun s hs => h s (List.mem_of_mem_drop hs)
theorem WordU.append {a b : List Snd} (h : WordU a) (h' : WordU b) : WordU (a ++ b) := fun s hs => (List.mem_append.1 hs).elim (h s) (h' s)
theorem replaceM_u {l : LawD} {ws : List Snd} {at_ : Nat} (hw : WordU ws) : WordU (replaceM l ws at_) := by
 unfold replaceM
 exact ((hw.take _).append (putM_u l _)).append (hw.drop _)
end Go.Proofs.YtlgliddhideflaaGreatDoor
namespace Go.Proofs.YtlgliddhideflaaGreatDoor
open Go.RowKit Go.Shelf
attribute [local go_sem] Oper.semAt_some
end Go.Proofs.YtlgliddhideflaaGreatDoor
namespace Go.Proofs.YtlgliddhideflaaGreatDoor
open Go.RowKit Go.Shelf
attribute [local go_sem] Oper.semAt_some
end Go.Proofs.YtlgliddhideflaaGreatDoor

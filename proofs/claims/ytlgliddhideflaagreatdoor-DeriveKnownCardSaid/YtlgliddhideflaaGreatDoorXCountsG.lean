/-
  Used and Pairs together, in plain words.
-/
import Derived.Test.YtlgliddhideflaaGreatDoorXPairs0
import Derived.Test.YtlgliddhideflaaGreatDoorG16
set_option linter.all false
set_option maxRecDepth 100000
set_option maxHeartbeats 4000000
namespace Go.Proofs.YtlgliddhideflaaGreatDoor
open Go.RowKit Go.Shelf
def bumps (ls : List LawD) (wss : List (List Snd)) (cnt : List Int) : List Int := wss.foldl (fun c ws => bumpK (formsM ls ws).2 (formsM ls ws).2.length c) cnt
theorem counts_go (ls : List LawD) : ∀ (wss : List (List Snd)) (cnt : List Int) (done : List (List Snd × List Snd)),
  (∃ e, e ≠ 0 ∧ usedGo ls wss cnt = (e, []) ∧ pairsGo ls wss done = (e, [])) ∨
  (usedGo ls wss cnt = (0, bumps ls wss cnt) ∧ pairsGo ls wss done = (0, done ++ wss.map fun ws => (ws, (endM ls ws).2)) ∧ ∀ ws ∈ wss, (endM ls ws).1 = 0)
 | [], cnt, done => .inr ⟨rfl, by simp [pairsGo], fun ws h => by simp at h⟩
 | ws :: r, cnt, done => by
  obtain ⟨h3, h4⟩ := forms_end ls ws
  rw [usedGo, pairsGo]
  by_cases h : (formsM ls ws).1 = 0
  ·rw [if_neg (by simpa using h), if_neg (by simpa using h)]
   rcases counts_go ls r (bumpK (formsM ls ws).2 (formsM ls ws).2.length cnt) (done ++ [(ws, ((formsM ls ws).2.getLast?).getD [])]) with ⟨e, h1, h2, h5⟩ | ⟨h1, h2, h5⟩
   ·exact .inl ⟨e, h1, h2, h5⟩
   ·refine .inr ⟨h1, ?_, fun x hx => ?_⟩
    ·rw [h2, h4 (h3 ▸ h)]; simp
    ·rcases List.mem_cons.1 hx with rfl | hx
     ·exact h3 ▸ h
     ·exact h5 x hx
  ·rw [if_pos h, if_pos h]
   exact .inl ⟨_, h, rfl, rfl⟩
theorem counts_cases (ls : List LawD) (wss : List (List Snd)) :
  (∃ e, e ≠ 0 ∧ usedM ls wss = (e, []) ∧ pairsM ls wss = (e, [])) ∨
  (lawsE ls = 0 ∧ ls.length ≤ 64 ∧ wss.length ≤ 256 ∧ usedM ls wss = (0, bumps ls wss (List.replicate ls.length 0)) ∧ pairsM ls wss = (0, wss.map fun ws => (ws, (endM ls ws).2)) ∧ ∀ ws ∈ wss, wcheck ws = 0 ∧ (endM ls ws).1 = 0) := by
 unfold usedM pairsM
 by_cases h : chkM ls wss = 0
 ·rw [if_neg (by simpa using h), if_neg (by simpa using h)]
  obtain ⟨h1, h2⟩ := chk_all h
  rcases counts_go ls wss (List.replicate ls.length 0) [] with h' | ⟨h3, h4, h5⟩
  ·exact .inl h'
  ·exact .inr ⟨chk_laws h, lawsE_len (chk_laws h), h1, h3, by simpa using h4, fun ws hw => ⟨h2 ws hw, h5 ws hw⟩⟩
 ·rw [if_pos h, if_pos h]
  exact .inl ⟨_, h, rfl, rfl⟩
end Go.Proofs.YtlgliddhideflaaGreatDoor

/-
  What DeriveCounts asks of the counts and pairs, in plain words.
-/
import Derived.Test.YtfgilinjaldhhaaGreatDoorG22
import Derived.Test.YtfgilinjaldhhaaGreatDoorXPairs0
import Derived.Test.YtfgilinjaldhhaaGreatDoorG16
set_option linter.unusedVariables false
set_option linter.unusedSimpArgs false
set_option maxRecDepth 100000
set_option maxHeartbeats 4000000
namespace Go.Proofs.YtfgilinjaldhhaaGreatDoor
open Go.RowKit Go.Shelf
theorem firstE_zero {wss : List (List Snd)} (h : firstE wss = 0) : ∀ ws ∈ wss, wcheck ws = 0 := by
 intro ws hws
 unfold firstE at h
 cases hf : (wss.map wcheck).find? (· != 0) with
 | none =>
  have := List.find?_eq_none.1 hf (wcheck ws) (List.mem_map.2 ⟨ws, hws, rfl⟩)
  simpa using this
 | some e =>
  rw [hf] at h
  have := List.find?_some hf
  dsimp only [Option.getD_some] at h
  simp [h] at this
theorem chk_all {ls : List LawD} {wss : List (List Snd)} (h : chkM ls wss = 0) : wss.length ≤ 256 ∧ ∀ ws ∈ wss, wcheck ws = 0 := by
 have h0 := chk_laws h
 unfold chkM at h
 rw [if_neg (by simpa using h0)] at h
 by_cases h2 : 256 < wss.length
 ·rw [if_pos h2] at h; exact absurd h (by decide)
 ·rw [if_neg h2] at h; exact ⟨by omega, firstE_zero h⟩
def bumps (ls : List LawD) (wss : List (List Snd)) (cnt : List Int) : List Int := wss.foldl (fun c ws => bumpK (formsM ls ws).2 (formsM ls ws).2.length c) cnt
theorem bumps_snoc (ls : List LawD) (wss : List (List Snd)) (ws : List Snd) (cnt : List Int) : bumps ls (wss ++ [ws]) cnt = bumpK (formsM ls ws).2 (formsM ls ws).2.length (bumps ls wss cnt) := by simp [bumps]
theorem counts_go (ls : List LawD) : ∀ (wss : List (List Snd)) (cnt : List Int) (done : List (List Snd × List Snd)),
  (∃ e, e ≠ 0 ∧ usedGo ls wss cnt = (e, []) ∧ pairsGo ls wss done = (e, [])) ∨
  (usedGo ls wss cnt = (0, bumps ls wss cnt) ∧ pairsGo ls wss done = (0, done ++ wss.map fun ws => (ws, (endM ls ws).2)) ∧ ∀ ws ∈ wss, (endM ls ws).1 = 0)
 | [], cnt, done => .inr ⟨rfl, by simp [pairsGo], fun ws h => by simp at h⟩
 | ws :: r, cnt, done => by
  obtain ⟨h3, h4⟩ := forms_end ls ws
  rw [usedGo, pairsGo]
  by_cases h : (formsM ls ws).1 = 0
  ·rw [if_neg (by simpa using h), if_neg (by simpa using h)]
   rcases counts_go ls r (bumpK (formsM ls ws).2 (formsM ls ws).2.length cnt) (done ++ [(ws, ((formsM ls ws).2.getLast?).getD [])]) with ⟨e, h1, h2, h5⟩ | ⟨h1, h2, h5⟩
   ·exact .inl ⟨e, h1, h2, h5⟩
   ·refine .inr ⟨h1, ?_, fun x hx => ?_⟩
    ·rw [h2, h4 (h3 ▸ h)]; simp
    ·rcases List.mem_cons.1 hx with rfl | hx
     ·exact h3 ▸ h
     ·exact h5 x hx
  ·rw [if_pos h, if_pos h]
   exact .inl ⟨_, h, rfl, rfl⟩
theorem counts_cases (ls : List LawD) (wss : List (List Snd)) :
  (∃ e, e ≠ 0 ∧ usedM ls wss = (e, []) ∧ pairsM ls wss = (e, [])) ∨
  (lawsE ls = 0 ∧ ls.length ≤ 64 ∧ wss.length ≤ 256 ∧ usedM ls wss = (0, bumps ls wss (List.replicate ls.length 0)) ∧ pairsM ls wss = (0, wss.map fun ws => (ws, (endM ls ws).2)) ∧ ∀ ws ∈ wss, wcheck ws = 0 ∧ (endM ls ws).1 = 0) := by
 unfold usedM pairsM
 by_cases h : chkM ls wss = 0
 ·rw [if_neg (by simpa using h), if_neg (by simpa using h)]
  obtain ⟨h1, h2⟩ := chk_all h
  rcases counts_go ls wss (List.replicate ls.length 0) [] with h' | ⟨h3, h4, h5⟩
  ·exact .inl h'
  ·exact .inr ⟨chk_laws h, lawsE_len (chk_laws h), h1, h3, by simpa using h4, fun ws hw => ⟨h2 ws hw, h5 ws hw⟩⟩
 ·rw [if_pos h, if_pos h]
  exact .inl ⟨_, h, rfl, rfl⟩
theorem word_good {ls : List LawD} {ws : List Snd} (h : lawsE ls = 0) (hw : wcheck ws = 0) (he : (endM ls ws).1 = 0) :
  stepsM ls ws = (0, stepsL (formsM ls ws).2 ls.length) ∧ deriveM ls ws = (0, (endM ls ws).2) ∧ (formsM ls ws).2.length = ls.length + 1 := by
 have hf := forms_ok h hw
 rw [if_neg (by simpa using he)] at hf
 refine ⟨?_, ?_, formsM_full ls ws (by rw [(forms_end ls ws).1]; exact he)⟩
 ·unfold stepsM; rw [hf, if_neg (by simp)]
 ·rw [derive_ok h hw, if_neg (by simpa using he)]
def incAt (cnt : List Int) (j : Nat) : List Int := cnt.set j (cnt.getD j 0 + 1)
theorem incAt_len (cnt : List Int) (j : Nat) : (incAt cnt j).length = cnt.length := by simp [incAt]
theorem incAt_bound {cnt : List Int} {j : Nat} {m : Int} (h : ∀ c ∈ cnt, 0 ≤ c ∧ c ≤ m) : ∀ c ∈ incAt cnt j, 0 ≤ c ∧ c ≤ m + 1 := by
 intro c hc
 rcases List.mem_or_eq_of_mem_set hc with h1 | h1
 ·have := h c h1; omega
 ·by_cases hj : j < cnt.length
  ·have h2 := h cnt[j] (List.getElem_mem hj)
   have h3 : cnt.getD j 0 = cnt[j] := by simp [List.getD, List.getElem?_eq_getElem hj]
   rw [h3] at h1; omega
  ·unfold incAt at hc
   rw [List.set_eq_of_length_le (by omega)] at hc
   have := h c hc; omega
def incs (cnt : List Int) (ss : List (Nat × List Snd × List Snd)) : List Int := ss.foldl (fun c s => incAt c s.1) cnt
theorem incs_len (ss : List (Nat × List Snd × List Snd)) : ∀ cnt : List Int, (incs cnt ss).length = cnt.length := by
 induction ss with
 | nil => intro cnt; rfl
 | cons s r ih => intro cnt; show (incs (incAt cnt s.1) r).length = _; rw [ih, incAt_len]
theorem incs_snoc (cnt : List Int) (ss : List (Nat × List Snd × List Snd)) (s : Nat × List Snd × List Snd) : incs cnt (ss ++ [s]) = incAt (incs cnt ss) s.1 := by simp [incs]
theorem incs_steps {fs : List (List Snd)} {cnt : List Int} : ∀ m, m < fs.length → m ≤ cnt.length → incs cnt (stepsL fs m) = bumpK fs (m + 1) cnt
 | 0, _, _ => by rw [bumpK_01 _ _ (by omega)]; rfl
 | m + 1, h1, h2 => by
  have ih := incs_steps (fs := fs) (cnt := cnt) m (by omega) (by omega)
  have e1 : fs[m]? = some (fs.getD m []) := by simp [List.getD, List.getElem?_eq_getElem (show m < fs.length by omega)]
  have e2 : fs[m + 1]? = some (fs.getD (m + 1) []) := by simp [List.getD, List.getElem?_eq_getElem h1]
  rw [stepsL_succ]
  unfold stepAt
  by_cases h : fs.getD m [] = fs.getD (m + 1) []
  ·rw [if_pos h, List.append_nil, ih]
   exact (bumpK_same (by rw [e1, e2, h])).symm
  ·rw [if_neg h, incs_snoc, ih]
   have hl : m < (bumpK fs (m + 1) cnt).length := by rw [bumpK_len]; omega
   have hx : (bumpK fs (m + 1) cnt)[m]? = some ((bumpK fs (m + 1) cnt).getD m 0) := by simp [List.getD, List.getElem?_eq_getElem hl]
   exact bumpK_set (by rw [e1, e2]; simpa using h) hx
theorem bumps_len (ls : List LawD) : ∀ (wss : List (List Snd)) (cnt : List Int), (bumps ls wss cnt).length = cnt.length
 | [], cnt => rfl
 | ws :: r, cnt => by
  show (bumps ls r (bumpK _ _ cnt)).length = _
  rw [bumps_len ls r, bumpK_len]
end Go.Proofs.YtfgilinjaldhhaaGreatDoor

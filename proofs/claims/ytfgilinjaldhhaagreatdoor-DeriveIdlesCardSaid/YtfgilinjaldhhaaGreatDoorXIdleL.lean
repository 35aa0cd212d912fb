/-
  Idle laws, in plain words.
-/
import Derived.Test.YtfgilinjaldhhaaGreatDoorXCountsL
set_option linter.unusedVariables false
set_option linter.unusedSimpArgs false
set_option maxRecDepth 100000
set_option maxHeartbeats 4000000
namespace Go.Proofs.YtfgilinjaldhhaaGreatDoor
open Go.RowKit Go.Shelf
def without (ls : List LawD) (k : Nat) : List LawD := ls.take k ++ ls.drop (k + 1)
def mattersM (rest : List LawD) (p : List Snd × List Snd) : Bool := (formsM rest p.1).1 != 0 || !decide (((formsM rest p.1).2.getLast?).getD [] = p.2)
def idleB (ls : List LawD) (ps : List (List Snd × List Snd)) (k : Nat) : Bool := !ps.any (mattersM (without ls k))
def idleM (ls : List LawD) (wss : List (List Snd)) : Int × List Int :=
 if (pairsM ls wss).1 ≠ 0 then ((pairsM ls wss).1, []) else (0, ((List.range ls.length).filter (idleB ls (pairsM ls wss).2)).map fun (k : Nat) => (k : Int))
theorem without_len {ls : List LawD} {k : Nat} : (without ls k).length ≤ ls.length := by
 unfold without; rw [List.length_append, List.length_take, List.length_drop]; omega
theorem without_sub {ls : List LawD} {k : Nat} (h : lawsE ls = 0) : lawsE (without ls k) = 0 :=
 lawsE_sub h without_len fun l hl => by
  rcases List.mem_append.1 hl with h | h
  ·exact List.mem_of_mem_take h
  ·exact List.mem_of_mem_drop h
theorem matters_end (rest : List LawD) (ws y : List Snd) : mattersM rest (ws, y) = !((endM rest ws).1 == 0 && decide ((endM rest ws).2 = y)) := by
 obtain ⟨h3, h4⟩ := forms_end rest ws
 unfold mattersM
 by_cases h : (endM rest ws).1 = 0
 ·simp [h3, h, h4 h]
 ·have e1 : ((endM rest ws).1 != 0) = true := by simpa using h
  have e2 : ((endM rest ws).1 == 0) = false := by simpa using h
  rw [h3, e1, e2]; rfl
def sameB (ls : List LawD) (k : Nat) (ws : List Snd) : Bool := (deriveM (without ls k) ws).1 == 0 && decide ((deriveM (without ls k) ws).2 = (endM ls ws).2)
theorem sameB_end {ls : List LawD} {k : Nat} {ws : List Snd} (h : lawsE ls = 0) (hw : wcheck ws = 0) : sameB ls k ws = ((endM (without ls k) ws).1 == 0 && decide ((endM (without ls k) ws).2 = (endM ls ws).2)) := by
 unfold sameB
 rw [derive_ok (without_sub h) hw]
 by_cases h0 : (endM (without ls k) ws).1 = 0
 ·rw [if_neg (by simpa using h0), h0]
 ·rw [if_pos h0]
  have : ((endM (without ls k) ws).1 == 0) = false := by simpa using h0
  rw [this]; rfl
theorem idleB_all {ls : List LawD} {wss : List (List Snd)} {k : Nat} (h : lawsE ls = 0) (hw : ∀ ws ∈ wss, wcheck ws = 0) : idleB ls (wss.map fun ws => (ws, (endM ls ws).2)) k = wss.all (sameB ls k) := by
 unfold idleB
 rw [List.any_map]
 induction wss with
 | nil => rfl
 | cons ws r ih =>
  have h1 := ih fun x hx => hw x (List.mem_cons_of_mem _ hx)
  rw [List.any_cons, List.all_cons, ← h1, sameB_end h (hw ws (List.mem_cons_self ..))]
  simp only [Function.comp, matters_end]
  simp
theorem end_without {ls : List LawD} {ws : List Snd} {k : Nat} (hk : k < ls.length) (he : (endM ls ws).1 = 0) (hs : (formsM ls ws).2[k]? = (formsM ls ws).2[k + 1]?) : endM (without ls k) ws = endM ls ws := by
 rw [forms_at ls ws k he (by omega), forms_at ls ws (k + 1) he (by omega)] at hs
 have h1 := end_take he k
 unfold without
 rw [endM_append, if_neg (by simpa using h1), endM_part0 (k + 1) (end_take he (k + 1)), Option.some.inj hs]
theorem bumpK_up {fs : List (List Snd)} {i : Nat} {cnt : List Int} {j : Nat} {x : Int} (h : cnt[j]? = some x) : ∃ y, (bumpK fs i cnt)[j]? = some y ∧ x ≤ y ∧ (j + 1 < i → fs[j]? ≠ fs[j + 1]? → x < y) := by
 rw [bumpK_get, h, Option.map_some]
 refine ⟨_, rfl, ?_, fun h1 h2 => ?_⟩
 ·split <;> omega
 ·rw [if_pos ⟨h1, h2⟩]; omega
theorem bumps_up (ls : List LawD) {j : Nat} : ∀ (wss : List (List Snd)) (cnt : List Int) (x : Int), cnt[j]? = some x → ∃ y, (bumps ls wss cnt)[j]? = some y ∧ x ≤ y ∧ ∀ ws ∈ wss, j + 1 < (formsM ls ws).2.length → (formsM ls ws).2[j]? ≠ (formsM ls ws).2[j + 1]? → x < y
 | [], cnt, x, h => ⟨x, h, Int.le_refl _, fun ws hw => by simp at hw⟩
 | v :: r, cnt, x, h => by
  obtain ⟨y, h1, h2, h3⟩ := bumpK_up (fs := (formsM ls v).2) (i := (formsM ls v).2.length) h
  obtain ⟨z, h4, h5, h6⟩ := bumps_up ls r _ y h1
  refine ⟨z, h4, by omega, fun ws hw hj hne => ?_⟩
  rcases List.mem_cons.1 hw with rfl | hw
  ·have := h3 hj hne; omega
  ·have := h6 ws hw hj hne; omega
theorem unused_idle {ls : List LawD} {wss : List (List Snd)} {k : Nat} {x : Int} (hk : k < ls.length) (h : lawsE ls = 0) (hw : ∀ ws ∈ wss, wcheck ws = 0 ∧ (endM ls ws).1 = 0) (hx : (bumps ls wss (List.replicate ls.length 0))[k]? = some x) (h0 : ¬ 0 < x) :
  wss.all (sameB ls k) = true := by
 rw [List.all_eq_true]
 intro ws hws
 obtain ⟨h1, h2⟩ := hw ws hws
 obtain ⟨y, h3, h4, h5⟩ := bumps_up ls wss (List.replicate ls.length 0) 0 (j := k) (by rw [List.getElem?_replicate, if_pos hk])
 obtain rfl : y = x := Option.some.inj (h3.symm.trans hx)
 have hfl := formsM_full ls ws (by rw [(forms_end ls ws).1]; exact h2)
 by_cases hs : (formsM ls ws).2[k]? = (formsM ls ws).2[k + 1]?
 ·rw [sameB_end h h1, end_without hk h2 hs, h2]; simp
 ·exact absurd (h5 ws hws (by omega) hs) h0
theorem idle_sorted (p : Nat → Bool) (n : Nat) : ∀ (i : Nat) (x y : Nat), ((List.range n).filter p)[i]? = some x → ((List.range n).filter p)[i + 1]? = some y → x < y := by
 intro i x y hx hy
 have h : ((List.range n).filter p).Pairwise (· < ·) := List.Pairwise.filter p List.pairwise_lt_range
 obtain ⟨h1, h2⟩ := List.getElem?_eq_some_iff.1 hx
 obtain ⟨h3, h4⟩ := List.getElem?_eq_some_iff.1 hy
 have := List.pairwise_iff_getElem.1 h i (i + 1) h1 h3 (by omega)
 rw [h2, h4] at this; exact this
theorem idle_mem {p : Nat → Bool} {n i x : Nat} (hx : ((List.range n).filter p)[i]? = some x) : x < n := by
 have := List.mem_of_getElem? hx
 rw [List.mem_filter] at this
 exact List.mem_range.1 this.1
end Go.Proofs.YtfgilinjaldhhaaGreatDoor

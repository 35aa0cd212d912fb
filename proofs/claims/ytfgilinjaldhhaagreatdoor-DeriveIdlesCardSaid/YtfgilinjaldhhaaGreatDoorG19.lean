/-
  What derive.Split says, in plain words.
  Words of a slice of words, one by one.
-/
import Derived.Test.YtfgilinjaldhhaaGreatDoorG15
import Derived.Test.YtfgilinjaldhhaaGreatDoorG13
set_option linter.unusedVariables false
set_option linter.unusedSimpArgs false
set_option maxRecDepth 100000
set_option maxHeartbeats 4000000
namespace Go.Proofs.YtfgilinjaldhhaaGreatDoor
open Go.RowKit Go.Shelf
def spotM (x y : List (List Snd)) : Int × Bool × Int := match diffM x y with | some k => (k, true, 0) | none => (0, false, 0)
theorem diffM_comm (x y : List (List Snd)) : diffM x y = diffM y x := by
 unfold diffM
 rw [Nat.max_comm]
 congr 1
 funext k
 congr 1
 exact decide_eq_decide.2 ⟨Eq.symm, Eq.symm⟩
theorem spotM_comm (x y : List (List Snd)) : spotM x y = spotM y x := by unfold spotM; rw [diffM_comm]
theorem diffM_self (x : List (List Snd)) : diffM x x = none := find_range_none fun j _ => by simp
theorem formsE_zero {ls : List LawD} {ws : List Snd} (h : (formsE ls ws).1 = 0) : chkM ls [ws] = 0 ∧ (formsM ls ws).1 = 0 ∧ (formsE ls ws).2 = (formsM ls ws).2 := by
 unfold formsE at h ⊢
 by_cases h0 : chkM ls [ws] = 0
 ·rw [if_neg (by simpa using h0)] at h ⊢
  by_cases h1 : (formsM ls ws).1 = 0
  ·rw [if_neg (by simpa using h1)]; exact ⟨h0, h1, rfl⟩
  ·rw [if_pos h1] at h; exact absurd h h1
 ·rw [if_pos h0] at h; exact absurd h h0
theorem formsM_full : ∀ (ls : List LawD) (ws : List Snd), (formsM ls ws).1 = 0 → (formsM ls ws).2.length = ls.length + 1
 | [], ws, _ => rfl
 | l :: ls, ws, h => by
  rw [formsM] at h ⊢
  by_cases h0 : (applyM l ws).1 = 0
  ·rw [if_neg (by simpa using h0)] at h ⊢
   dsimp only at h ⊢
   rw [List.length_cons, formsM_full ls _ h, List.length_cons]
  ·rw [if_pos h0] at h; exact absurd h h0
theorem formsE_full {ls : List LawD} {ws : List Snd} (h : (formsE ls ws).1 = 0) : (formsE ls ws).2.length = ls.length + 1 := by
 obtain ⟨_, h1, h2⟩ := formsE_zero h
 rw [h2]; exact formsM_full ls ws h1
theorem formsE_head {ls : List LawD} {ws : List Snd} (h : (formsE ls ws).1 = 0) : formK (formsE ls ws).2 0 = ws := by
 obtain ⟨_, h1, h2⟩ := formsE_zero h
 obtain ⟨r, hr⟩ := formsM_pos ls ws
 rw [h2, hr]; simp [formK]
theorem split_ok {a b : List LawD} {ws : List Snd} (h1 : (formsE a ws).1 = 0) (h2 : (formsE b ws).1 = 0) : splitM a b ws = spotM (formsE a ws).2 (formsE b ws).2 := by
 have ha := chk_laws (formsE_zero h1).1
 have hb := chk_laws (formsE_zero h2).1
 unfold splitM spotM
 rw [if_neg (by simpa using ha), if_neg (by simpa using hb), if_neg (by simpa using h1), if_neg (by simpa using h2)]
 cases diffM (formsE a ws).2 (formsE b ws).2 <;> rfl
theorem split_bad {a b : List LawD} {ws : List Snd} (h : ¬ ((formsE a ws).1 = 0 ∧ (formsE b ws).1 = 0)) : ∃ e, e ≠ 0 ∧ splitM a b ws = (0, false, e) := by
 unfold splitM
 by_cases ha : lawsE a = 0
 ·rw [if_neg (by simpa using ha)]
  by_cases hb : lawsE b = 0
  ·rw [if_neg (by simpa using hb)]
   by_cases h1 : (formsE a ws).1 = 0
   ·rw [if_neg (by simpa using h1)]
    have h2 : (formsE b ws).1 ≠ 0 := fun h2 => h ⟨h1, h2⟩
    rw [if_pos h2]; exact ⟨_, h2, rfl⟩
   ·rw [if_pos h1]; exact ⟨_, h1, rfl⟩
  ·rw [if_pos hb]; exact ⟨_, hb, rfl⟩
 ·rw [if_pos ha]; exact ⟨_, ha, rfl⟩
theorem spot_cases {a b : List LawD} {ws : List Snd} (h1 : (formsE a ws).1 = 0) (h2 : (formsE b ws).1 = 0) :
  (∃ k : Nat, spotM (formsE a ws).2 (formsE b ws).2 = ((k : Int), true, 0) ∧ 1 ≤ k ∧ k < max (a.length + 1) (b.length + 1) ∧ (∀ i, i < k → formK (formsE a ws).2 i = formK (formsE b ws).2 i) ∧ formK (formsE a ws).2 k ≠ formK (formsE b ws).2 k) ∨
  (spotM (formsE a ws).2 (formsE b ws).2 = (0, false, 0) ∧ ∀ i, i < max (a.length + 1) (b.length + 1) → formK (formsE a ws).2 i = formK (formsE b ws).2 i) := by
 unfold spotM
 have l1 := formsE_full h1
 have l2 := formsE_full h2
 cases hd : diffM (formsE a ws).2 (formsE b ws).2 with
 | none =>
  refine .inr ⟨rfl, fun i hi => ?_⟩
  unfold diffM at hd
  rw [List.find?_eq_none] at hd
  have := hd i (List.mem_range.2 (by rw [l1, l2]; exact hi))
  simpa using this
 | some k =>
  unfold diffM at hd
  rw [List.find?_range_eq_some] at hd
  obtain ⟨q1, q2, q3⟩ := hd
  have hne : formK (formsE a ws).2 k ≠ formK (formsE b ws).2 k := by simpa using q1
  refine .inl ⟨k, rfl, ?_, ?_, fun i hi => ?_, hne⟩
  ·rcases Nat.eq_zero_or_pos k with h | h
   ·subst h
    exact absurd ((formsE_head h1).trans (formsE_head h2).symm) hne
   ·exact h
  ·have := List.mem_range.1 q2
   rw [l1, l2] at this; exact this
  ·have := q3 i hi
   simpa using this
theorem IsWords.shape {w : World} {A : Option Addr} {n c : Nat} {xss : List (List Snd)} (h : IsWords w A n c xss) (hn : 0 < n) : ∃ b off, A = some ⟨b, off, none⟩ ∧ b < w.heap.size := by
 obtain ⟨b, off, _, _, _, _, hA, hb, _⟩ := h.at_ hn
 exact ⟨b, off, hA, hb⟩
theorem IsWords.cell_at {w : World} {b off n c k : Nat} {xss : List (List Snd)} (h : IsWords w (some ⟨b, off, none⟩) n c xss) (hk : k < n) :
  ∃ A' n' c' xs, w.cell? ⟨b, off + k, none⟩ = some (.slice A' n' c') ∧ xss[k]? = some xs ∧ IsWord w A' n' c' xs := by
 obtain ⟨b', off', A', n', c', xs, hA, _, h1, h2, h3⟩ := h.at_ hk
 obtain ⟨rfl, rfl⟩ : b = b' ∧ off = off' := by simpa using hA
 exact ⟨A', n', c', xs, h1, h2, h3⟩
theorem yields_lawM {ops : Array Oper} {S : World → Prop} {op : Oper} {ac : Act} (hw : Region.wanted op (yielded ops ac.tmps) = true) (x : Operand) (ho : op.op = .load 49 x)
  (b o : Nat) (s : LawR) (hx : ac.eval x = .pointer (some ⟨b, o, none⟩)) (hS : ∀ w, S w → w.rangeAt b o s.cells) : YieldsIf Tryz.prog ops S op (lawV s.l s.a) ac :=
 .inl ⟨hw, fun w hw' => by
  unfold execOp
  simp only [ho, hx, Instr.loadAt, Instr.sureAddr, Sem.run_bind, Sem.run_pure, Result.andThen_ok, run_load_lawM (hS w hw')]⟩
end Go.Proofs.YtfgilinjaldhhaaGreatDoor

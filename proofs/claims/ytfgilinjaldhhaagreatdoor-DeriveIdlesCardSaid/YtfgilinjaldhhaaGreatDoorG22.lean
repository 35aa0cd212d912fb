/-
  Steps of a derivation, in a slice of one's own.
  What DeriveSteps asks of the steps, in plain words.
-/
import Derived.Test.YtfgilinjaldhhaaGreatDoorG21
import Derived.Test.YtfgilinjaldhhaaGreatDoorG14
set_option linter.unusedVariables false
set_option linter.unusedSimpArgs false
set_option maxRecDepth 100000
set_option maxHeartbeats 4000000
namespace Go.Proofs.YtfgilinjaldhhaaGreatDoor
open Go.RowKit Go.Shelf
structure StepR where
 k : Nat
 p : Part
 q : Part
def StepR.cells (s : StepR) : List Value := [.int .i64 s.k, s.p.val, s.q.val]
theorem StepR.len (s : StepR) : s.cells.length = 3 := rfl
def StepR.data (s : StepR) : Nat × List Snd × List Snd := (s.k, s.p.word, s.q.word)
def IsSteps (w : World) (A : Option Addr) (n c : Nat) (ss : List StepR) : Prop := Recs StepR.cells 3 w A n c ss ∧ ∀ s ∈ ss, IsWord w s.p.1 s.p.2.1 s.p.2.2.1 s.p.2.2.2 ∧ IsWord w s.q.1 s.q.2.1 s.q.2.2.1 s.q.2.2.2
theorem IsSteps.below {w w' : World} {A : Option Addr} {n c : Nat} {ss : List StepR} (h : IsSteps w A n c ss) {B : Nat} (hb : Below B w w') (hB : w.heap.size ≤ B) : IsSteps w' A n c ss :=
 ⟨h.1.below hb hB, fun s hs => ⟨(h.2 s hs).1.below hb hB, (h.2 s hs).2.below hb hB⟩⟩
def Aside (B : Nat) (v : Value) (w : World) (p : Part) : Prop := IsWord w p.1 p.2.1 p.2.2.1 p.2.2.2 ∧ ∀ ad, p.1 = some ad → B ≤ ad.block ∧ (0 < p.2.1 → ¬ v.ownBlock = some ad.block)
structure StepsOK (w : World) (B : Nat) (v : Value) (ss : List StepR) : Prop where
 own : w.ownsRow B 65 3 v ss.length (ss.flatMap StepR.cells)
 pq : ∀ s ∈ ss, Aside B v w s.p ∧ Aside B v w s.q
 sz : B ≤ w.heap.size
theorem Aside.below {B : Nat} {v : Value} {w w' : World} {p : Part} (h : Aside B v w p) (hb : Below w.heap.size w w') : Aside B v w' p := ⟨h.1.below hb rr, h.2⟩
theorem StepsOK.below {w w' : World} {B : Nat} {v : Value} {ss : List StepR} (h : StepsOK w B v ss) (hb : Below w.heap.size w w') : StepsOK w' B v ss :=
 ⟨own_heap h.own fun k e => hb.block k (h.own.lt k e).2, fun s hs => ⟨(h.pq s hs).1.below hb, (h.pq s hs).2.below hb⟩, Nat.le_trans h.sz hb.size⟩
theorem StepsOK.nil (w : World) : StepsOK w w.heap.size (.slice none 0 0) [] := ⟨World.ownsRow_nil _ _ _ _, fun s hs => by simp at hs, rr⟩
theorem StepsOK.steps {w : World} {B : Nat} {A : Option Addr} {n c : Nat} {ss : List StepR} (h : StepsOK w B (.slice A n c) ss) (hn : n = ss.length) : IsSteps w A n c ss := by
 subst hn
 exact ⟨Recs.of_own h.own StepR.len (by decide), fun s hs => ⟨(h.pq s hs).1.1, (h.pq s hs).2.1⟩⟩
theorem Aside.grown {B : Nat} {v v' : Value} {w X : World} {p : Part} (h : Aside B v w p) (hg : w.grownBy X v.ownBlock) (hat : v'.ownBlock = v.ownBlock ∨ v'.ownBlock = some w.heap.size) : Aside B v' X p := by
 have hlt : 0 < p.2.1 → ∀ ad, p.1 = some ad → ad.block < w.heap.size := by
  intro hn ad had
  obtain ⟨b, off, hb, hlt, _⟩ := h.1.2.2.2.2 hn
  rw [had] at hb
  injection hb with hb
  subst hb
  exact hlt
 refine ⟨h.1.keep (S := fun k => v.ownBlock = some k) ((Keep.refl (fun k => v.ownBlock = some k) w).grown hg (fun k e => .inl e)) fun hn ad had e => (h.2 ad had).2 hn e, fun ad had => ⟨(h.2 ad had).1, fun hn e => ?_⟩⟩
 rcases hat with e' | e'
 ·exact (h.2 ad had).2 hn (e' ▸ e)
 ·rw [e'] at e; injection e with e; have := hlt hn ad had; omega
theorem StepsOK.push {w X : World} {B : Nat} {v v' : Value} {ss : List StepR} (h : StepsOK w B v ss) {s : StepR} (hp : Aside B v w s.p) (hq : Aside B v w s.q)
  (hown : X.ownsRow B 65 3 v' (ss.length + 1) (ss.flatMap StepR.cells ++ s.cells)) (hg : w.grownBy X v.ownBlock) (hat : v'.ownBlock = v.ownBlock ∨ v'.ownBlock = some w.heap.size) : StepsOK X B v' (ss ++ [s]) := by
 refine ⟨?_, fun t ht => ?_, Nat.le_trans h.sz hg.size⟩
 ·rw [List.length_append, List.length_singleton, List.flatMap_append, List.flatMap_singleton]; exact hown
 ·rcases List.mem_append.1 ht with ht | ht
  ·exact ⟨(h.pq t ht).1.grown hg hat, (h.pq t ht).2.grown hg hat⟩
  ·obtain rfl : t = s := by simpa using ht
   exact ⟨hp.grown hg hat, hq.grown hg hat⟩
def stepAt (fs : List (List Snd)) (i : Nat) : List (Nat × List Snd × List Snd) := if fs.getD i [] = fs.getD (i + 1) [] then [] else [(i, fs.getD i [], fs.getD (i + 1) [])]
def stepsL (fs : List (List Snd)) (n : Nat) : List (Nat × List Snd × List Snd) := (List.range n).flatMap (stepAt fs)
theorem stepsL_succ (fs : List (List Snd)) (n : Nat) : stepsL fs (n + 1) = stepsL fs n ++ stepAt fs n := by simp [stepsL, List.range_succ]
theorem stepsL_len (fs : List (List Snd)) : ∀ n, (stepsL fs n).length ≤ n
 | 0 => by simp [stepsL]
 | n + 1 => by
  have h := stepsL_len fs n
  rw [stepsL_succ, List.length_append]
  unfold stepAt
  split <;> simp <;> omega
def stepsM (ls : List LawD) (ws : List Snd) : Int × List (Nat × List Snd × List Snd) :=
 if (formsE ls ws).1 ≠ 0 then ((formsE ls ws).1, []) else (0, stepsL (formsE ls ws).2 ls.length)
def RetSteps (w : World) (r : Int × List (Nat × List Snd × List Snd)) (e : Ending) (w' : World) : Prop :=
 ∃ A n c ss, e = .returned (.tuple #[.slice A n c, .int .i64 r.1]) ∧ ss.map StepR.data = r.2 ∧ IsSteps w' A n c ss ∧ Below w.heap.size w w'
def RetStepsF (w : World) (r : Int × List (Nat × List Snd × List Snd)) (e : Ending) (w' : World) : Prop :=
 ∃ A n c ss, e = .returned (.tuple #[.slice A n c, .int .i64 r.1]) ∧ ss.map StepR.data = r.2 ∧ IsSteps w' A n c ss ∧ Below w.heap.size w w' ∧ ∀ ad, A = some ad → w.heap.size ≤ ad.block
theorem steps_bad {ls : List LawD} {ws : List Snd} (h : (stepsM ls ws).1 ≠ 0) : ∃ e, e ≠ 0 ∧ stepsM ls ws = (e, []) ∧ deriveM ls ws = (e, []) := by
 unfold stepsM at h ⊢
 by_cases h0 : (formsE ls ws).1 = 0
 ·rw [if_neg (by simpa using h0)] at h; exact absurd rfl h
 ·rw [if_pos h0]
  refine ⟨_, h0, rfl, ?_⟩
  by_cases hc : chkM ls [ws] = 0
  ·have hE : formsE ls ws = if (formsM ls ws).1 ≠ 0 then ((formsM ls ws).1, []) else (0, (formsM ls ws).2) := by unfold formsE; rw [if_neg (by simpa using hc)]
   by_cases hf : (formsM ls ws).1 = 0
   ·rw [hE, if_neg (by simpa using hf)] at h0; exact absurd rfl h0
   ·have hl := (lawsE_all (chk_laws hc)).2
    have hw : wcheck ws = 0 := by
     unfold chkM at hc
     rw [if_neg (by simpa using chk_laws hc), if_neg (by simp)] at hc
     by_cases hw : wcheck ws = 0
     ·exact hw
     ·unfold firstE at hc; simp [hw] at hc
    rw [hE, if_pos hf]
    unfold deriveM
    rw [if_neg (by simpa using hc), if_pos hf]
    rcases (formsM_ok ls ws hl hw).1 with h' | h'
    ·exact absurd h' hf
    ·rw [h']
  ·have hE : formsE ls ws = (chkM ls [ws], []) := by unfold formsE; rw [if_pos hc]
   rw [hE]
   unfold deriveM
   rw [if_pos hc]
theorem steps_good {ls : List LawD} {ws : List Snd} (h : (stepsM ls ws).1 = 0) : ∃ fs, stepsM ls ws = (0, stepsL fs ls.length) ∧ fs.length = ls.length + 1 ∧ fs.getD 0 [] = ws ∧
  deriveM ls ws = (0, fs.getD ls.length []) ∧ ls.length ≤ 64 ∧ ∀ (k : Nat) (l : LawD), ls[k]? = some l → applyM l (fs.getD k []) = (0, fs.getD (k + 1) []) := by
 unfold stepsM at h ⊢
 by_cases h0 : (formsE ls ws).1 = 0
 ·rw [if_neg (by simpa using h0)]
  obtain ⟨h1, h2, h3⟩ := formsE_zero h0
  obtain ⟨h4, h5⟩ := forms_end ls ws
  have he : (endM ls ws).1 = 0 := h4 ▸ h2
  have hg : ∀ k, k ≤ ls.length → (formsE ls ws).2.getD k [] = (endM (ls.take k) ws).2 := fun k hk => getD_of (by rw [h3]; exact forms_at ls ws k he hk)
  refine ⟨_, rfl, formsE_full h0, hg 0 (Nat.zero_le _), ?_, (lawsE_all (chk_laws h1)).1, fun k l hl => ?_⟩
  ·unfold deriveM
   rw [if_neg (by simpa using h1), if_neg (by simpa using h2), h5 he, hg _ rr, List.take_length]
   rfl
  ·have hk := (List.getElem?_eq_some_iff.1 hl).1
   rw [hg k (by omega), hg (k + 1) (by omega)]
   exact end_step he hl
 ·rw [if_pos h0] at h; exact absurd h h0
theorem stepsL_add (fs : List (List Snd)) (a : Nat) : ∀ d, stepsL fs (a + d) = stepsL fs a ++ (List.range d).flatMap fun i => stepAt fs (a + i)
 | 0 => by simp
 | d + 1 => by rw [← Nat.add_assoc, stepsL_succ, stepsL_add fs a d, List.range_succ, List.flatMap_append, List.append_assoc, List.flatMap_singleton]
theorem step_next {fs : List (List Snd)} {n a : Nat} {k : Nat} {x y : List Snd} (ha : a ≤ n) (h : (stepsL fs n)[(stepsL fs a).length]? = some (k, x, y)) :
  a ≤ k ∧ k < n ∧ x = fs.getD k [] ∧ y = fs.getD (k + 1) [] ∧ x ≠ y ∧ (∀ m, a ≤ m → m < k → fs.getD m [] = fs.getD (m + 1) []) ∧ fs.getD a [] = x ∧ (stepsL fs (k + 1)).length = (stepsL fs a).length + 1 := by
 obtain ⟨d, rfl⟩ : ∃ d, n = a + d := ⟨n - a, by omega⟩
 clear ha
 induction d generalizing a with
 | zero => rw [Nat.add_zero, List.getElem?_eq_none rr] at h; cases h
 | succ d ih =>
  by_cases he : fs.getD a [] = fs.getD (a + 1) []
  ·have hs : stepAt fs a = [] := by unfold stepAt; rw [if_pos he]
   have hl : stepsL fs (a + 1) = stepsL fs a := by rw [stepsL_succ, hs, List.append_nil]
   have h' := ih (a := a + 1) (by rw [hl, show a + 1 + d = a + (d + 1) by omega]; exact h)
   obtain ⟨h1, h2, h3, h4, h5, h6, h7, h8⟩ := h'
   refine ⟨by omega, by omega, h3, h4, h5, fun m hm hk => ?_, he.trans h7, by rw [h8, hl]⟩
   by_cases hm' : m = a
   ·subst hm'; exact he
   ·exact h6 m (by omega) hk
  ·have hs : stepAt fs a = [(a, fs.getD a [], fs.getD (a + 1) [])] := by unfold stepAt; rw [if_neg he]
   have hl : stepsL fs (a + 1) = stepsL fs a ++ [(a, fs.getD a [], fs.getD (a + 1) [])] := by rw [stepsL_succ, hs]
   rw [show a + (d + 1) = a + 1 + d by omega, stepsL_add, hl, List.append_assoc, List.getElem?_append_right rr, Nat.sub_self] at h
   obtain ⟨rfl, rfl, rfl⟩ : a = k ∧ fs.getD a [] = x ∧ fs.getD (a + 1) [] = y := by simpa using h
   exact ⟨rr, by omega, rfl, rfl, he, fun m h1 h2 => by omega, rfl, by rw [hl]; simp⟩
theorem step_none {fs : List (List Snd)} {n a : Nat} (ha : a ≤ n) (h : (stepsL fs n).length = (stepsL fs a).length) : (∀ m, a ≤ m → m < n → fs.getD m [] = fs.getD (m + 1) []) ∧ fs.getD a [] = fs.getD n [] := by
 obtain ⟨d, rfl⟩ : ∃ d, n = a + d := ⟨n - a, by omega⟩
 clear ha
 induction d generalizing a with
 | zero => exact ⟨fun m h1 h2 => by omega, rfl⟩
 | succ d ih =>
  by_cases he : fs.getD a [] = fs.getD (a + 1) []
  ·have hs : stepAt fs a = [] := by unfold stepAt; rw [if_pos he]
   have hl : stepsL fs (a + 1) = stepsL fs a := by rw [stepsL_succ, hs, List.append_nil]
   obtain ⟨h1, h2⟩ := ih (a := a + 1) (by rw [hl, show a + 1 + d = a + (d + 1) by omega]; exact h)
   refine ⟨fun m hm hk => ?_, ?_⟩
   ·by_cases hm' : m = a
    ·subst hm'; exact he
    ·exact h1 m (by omega) (by omega)
   ·rw [show a + (d + 1) = a + 1 + d by omega]; exact he.trans h2
  ·have hs : stepAt fs a = [(a, fs.getD a [], fs.getD (a + 1) [])] := by unfold stepAt; rw [if_neg he]
   rw [show a + (d + 1) = a + 1 + d by omega, stepsL_add, stepsL_succ, hs] at h
   simp at h
theorem changes_no {l : LawD} {x y : List Snd} (h : applyM l x = (0, y)) : changesM l x = !decide (y = x) := by unfold changesM; rw [h]; rfl
end Go.Proofs.YtfgilinjaldhhaaGreatDoor

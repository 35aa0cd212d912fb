/-
  Outcomes of words by lists of laws; neighbours that are exchanged, in plain words.
  Laws that are moved (interplay.Blocks), in plain words.
  Two laws alone; neighbours that commute, in plain words.
-/
import Derived.Test.YtcpcojgmmpnkoaaGreatDoorG41
set_option linter.unusedVariables false
set_option linter.unusedSimpArgs false
set_option maxRecDepth 100000
set_option maxHeartbeats 4000000
namespace Go.Proofs.YtcpcojgmmpnkoaaGreatDoor
open Go.RowKit Go.Shelf
def outsGo (ls : List LawD) : List (List Snd) → List (List Snd) → Int × List (List Snd)
 | [], done => (0, done)
 | ws :: r, done => if (deriveM ls ws).1 ≠ 0 then ((deriveM ls ws).1, []) else outsGo ls r (done ++ [(deriveM ls ws).2])
def outsM (ls : List LawD) (wss : List (List Snd)) : Int × List (List Snd) := outsGo ls wss []
theorem outsGo_step {ls : List LawD} {wss done : List (List Snd)} {k : Nat} {ws : List Snd} (hk : wss[k]? = some ws) (h0 : (deriveM ls ws).1 = 0) :
  outsGo ls (wss.drop k) done = outsGo ls (wss.drop (k + 1)) (done ++ [(deriveM ls ws).2]) := by
 obtain ⟨h1, h2⟩ := List.getElem?_eq_some_iff.1 hk
 rw [List.drop_eq_getElem_cons h1, h2, outsGo, if_neg (by simpa using h0)]
theorem outsGo_fail {ls : List LawD} {wss done : List (List Snd)} {k : Nat} {ws : List Snd} (hk : wss[k]? = some ws) (h0 : (deriveM ls ws).1 ≠ 0) :
  outsGo ls (wss.drop k) done = ((deriveM ls ws).1, []) := by
 obtain ⟨h1, h2⟩ := List.getElem?_eq_some_iff.1 hk
 rw [List.drop_eq_getElem_cons h1, h2, outsGo, if_pos h0]
def endsL (ls : List LawD) (wss : List (List Snd)) : List (List Snd) := wss.map fun ws => (endM ls ws).2
def allOK (ls : List LawD) (wss : List (List Snd)) : Prop := ∀ ws ∈ wss, (endM ls ws).1 = 0
theorem outs_go {ls : List LawD} (h : lawsE ls = 0) : ∀ (wss done : List (List Snd)), (∀ ws ∈ wss, wcheck ws = 0) →
  (outsGo ls wss done = (11, []) ∧ ¬ allOK ls wss) ∨ (outsGo ls wss done = (0, done ++ endsL ls wss) ∧ allOK ls wss)
 | [], done, _ => .inr ⟨by simp [outsGo, endsL], fun ws hw => by simp at hw⟩
 | ws :: r, done, hw => by
  have hd := derive_ok h (hw ws (List.mem_cons_self ..))
  by_cases h0 : (endM ls ws).1 = 0
  ·rw [if_neg (by simpa using h0)] at hd
   rw [outsGo, hd, if_neg (by simp)]
   rcases outs_go h r (done ++ [(endM ls ws).2]) (fun x hx => hw x (List.mem_cons_of_mem _ hx)) with ⟨h1, h2⟩ | ⟨h1, h2⟩
   ·exact .inl ⟨h1, fun q => h2 fun x hx => q x (List.mem_cons_of_mem _ hx)⟩
   ·refine .inr ⟨?_, fun x hx => ?_⟩
    ·dsimp only; rw [h1]; simp [endsL]
    ·rcases List.mem_cons.1 hx with rfl | hx
     ·exact h0
     ·exact h2 x hx
  ·rw [if_pos h0] at hd
   rw [outsGo, hd, if_pos (by decide)]
   exact .inl ⟨rfl, fun q => h0 (q ws (List.mem_cons_self ..))⟩
theorem outs_cases {ls : List LawD} {wss : List (List Snd)} (h : lawsE ls = 0) (hw : ∀ ws ∈ wss, wcheck ws = 0) :
  (outsM ls wss = (11, []) ∧ ¬ allOK ls wss) ∨ (outsM ls wss = (0, endsL ls wss) ∧ allOK ls wss) := by
 have := outs_go h wss [] hw
 simpa [outsM] using this
def diffN (x y : List (List Snd)) : Option Nat := (List.range x.length).find? fun i => !decide (x.getD i [] = y.getD i [])
def diffI (x y : List (List Snd)) : Int := match diffN x y with | some k => (k : Int) | none => -1
theorem diffN_some {x y : List (List Snd)} {k : Nat} (h : diffN x y = some k) : k < x.length ∧ x.getD k [] ≠ y.getD k [] ∧ ∀ i, i < k → x.getD i [] = y.getD i [] := by
 unfold diffN at h
 rw [List.find?_range_eq_some] at h
 obtain ⟨q1, q2, q3⟩ := h
 exact ⟨List.mem_range.1 q2, by simpa using q1, fun i hi => by simpa using q3 i hi⟩
theorem diffN_none {x y : List (List Snd)} (h : diffN x y = none) : ∀ i, i < x.length → x.getD i [] = y.getD i [] := by
 unfold diffN at h
 rw [List.find?_eq_none] at h
 intro i hi
 simpa using h i (List.mem_range.2 hi)
theorem diffN_eq {x y : List (List Snd)} (hl : x.length = y.length) : diffN x y = none ↔ x = y := by
 constructor
 ·intro h
  apply List.ext_getElem?
  intro i
  by_cases hi : i < x.length
  ·have := diffN_none h i hi
   rw [List.getD_eq_getElem?_getD, List.getD_eq_getElem?_getD, List.getElem?_eq_getElem hi, List.getElem?_eq_getElem (by omega : i < y.length)] at this
   rw [List.getElem?_eq_getElem hi, List.getElem?_eq_getElem (by omega : i < y.length)]
   simpa using this
  ·rw [List.getElem?_eq_none (by omega), List.getElem?_eq_none (by omega)]
 ·rintro rfl
  unfold diffN
  rw [List.find?_eq_none]
  intro i _
  simp
def exch {α : Type} (l : List α) (i : Nat) : List α := match l[i]?, l[i + 1]? with | some x, some y => (l.set i y).set (i + 1) x | _, _ => l
theorem exch_of {α : Type} {l : List α} {i : Nat} {x y : α} (hx : l[i]? = some x) (hy : l[i + 1]? = some y) : exch l i = (l.set i y).set (i + 1) x := by
 unfold exch; rw [hx, hy]
theorem exch_len {α : Type} (l : List α) (i : Nat) : (exch l i).length = l.length := by unfold exch; split <;> simp
theorem exch_mem {α : Type} {l : List α} {i : Nat} {x : α} (h : x ∈ exch l i) : x ∈ l := by
 unfold exch at h
 split at h
 ·rename_i a b ha hb
  rcases List.mem_or_eq_of_mem_set h with h | h
  ·rcases List.mem_or_eq_of_mem_set h with h | h
   ·exact h
   ·exact h ▸ List.mem_of_getElem? hb
  ·exact h ▸ List.mem_of_getElem? ha
 ·exact h
theorem exch_map {α β : Type} (f : α → β) (l : List α) (i : Nat) : exch (l.map f) i = (exch l i).map f := by
 unfold exch
 rw [List.getElem?_map, List.getElem?_map]
 cases l[i]? <;> cases l[i + 1]? <;> simp [List.map_set]
theorem exch_E {ls : List LawD} {i : Nat} (h : lawsE ls = 0) : lawsE (exch ls i) = 0 := lawsE_sub h (Nat.le_of_eq (exch_len ls i)) fun l hl => exch_mem hl
def diffR (o : Option Nat) : Int × Bool × Int := match o with | some k => ((k : Int), true, 0) | none => (0, false, 0)
def matM (ls : List LawD) (i : Int) (wss : List (List Snd)) : Int × Bool × Int :=
 if chkM ls wss ≠ 0 then (0, false, chkM ls wss)
 else if i < 0 ∨ (ls.length : Int) - 1 ≤ i then (0, false, 3)
 else if (outsM ls wss).1 ≠ 0 then (0, false, (outsM ls wss).1)
 else if (outsM (exch ls i.toNat) wss).1 ≠ 0 then (0, false, (outsM (exch ls i.toNat) wss).1)
 else diffR (diffN (outsM ls wss).2 (outsM (exch ls i.toNat) wss).2)
theorem mat_cases {ls : List LawD} {wss : List (List Snd)} {i : Nat} (h : chkM ls wss = 0) (hi : i + 1 < ls.length) :
  (matM ls i wss = (0, false, 11) ∧ (¬ allOK ls wss ∨ ¬ allOK (exch ls i) wss)) ∨
  (allOK ls wss ∧ allOK (exch ls i) wss ∧ ∃ k : Nat, matM ls i wss = ((k : Int), true, 0) ∧ k < wss.length ∧ (endsL ls wss).getD k [] ≠ (endsL (exch ls i) wss).getD k [] ∧ ∀ j, j < k → (endsL ls wss).getD j [] = (endsL (exch ls i) wss).getD j []) ∨
  (allOK ls wss ∧ allOK (exch ls i) wss ∧ matM ls i wss = (0, false, 0) ∧ endsL ls wss = endsL (exch ls i) wss) := by
 have hl := chk_laws h
 have hw := (chk_all h).2
 unfold matM
 rw [if_neg (by simpa using h), if_neg (by omega), Int.toNat_natCast]
 rcases outs_cases hl hw with ⟨h1, h2⟩ | ⟨h1, h2⟩
 ·rw [h1, if_pos (by decide)]; exact .inl ⟨rfl, .inl h2⟩
 rw [h1, if_neg (by simp)]
 rcases outs_cases (exch_E (i := i) hl) hw with ⟨h3, h4⟩ | ⟨h3, h4⟩
 ·rw [h3, if_pos (by decide)]; exact .inl ⟨rfl, .inr h4⟩
 rw [h3, if_neg (by simp)]
 cases hd : diffN (endsL ls wss) (endsL (exch ls i) wss) with
 | some k =>
  obtain ⟨q1, q2, q3⟩ := diffN_some hd
  exact .inr (.inl ⟨h2, h4, k, rfl, by simpa [endsL] using q1, q2, q3⟩)
 | none => exact .inr (.inr ⟨h2, h4, rfl, (diffN_eq (by simp [endsL])).1 hd⟩)
theorem mat_chk {ls : List LawD} {wss : List (List Snd)} {i : Int} (h : chkM ls wss ≠ 0) : matM ls i wss = (0, false, chkM ls wss) := by unfold matM; rw [if_pos h]
def swapsGo (ls : List LawD) (wss : List (List Snd)) : Nat → Nat → List Nat → Int × List Nat
 | 0, _, done => (0, done)
 | n + 1, i, done => if (matM ls i wss).2.2 ≠ 0 then ((matM ls i wss).2.2, []) else swapsGo ls wss n (i + 1) (if (matM ls i wss).2.1 then done ++ [i] else done)
def swapsM (ls : List LawD) (wss : List (List Snd)) : Int × List Nat := if chkM ls wss ≠ 0 then (chkM ls wss, []) else swapsGo ls wss (ls.length - 1) 0 []
theorem exch_cons {α : Type} (a : α) (l : List α) (i : Nat) : exch (a :: l) (i + 1) = a :: exch l i := by
 unfold exch
 rw [List.getElem?_cons_succ, List.getElem?_cons_succ]
 cases l[i]? <;> cases l[i + 1]? <;> simp
theorem exch_mid {α : Type} (x y : α) (B : List α) : ∀ A : List α, exch (A ++ x :: y :: B) A.length = A ++ y :: x :: B
 | [] => by simp [exch]
 | a :: A => by rw [List.cons_append, List.length_cons, exch_cons, exch_mid x y B A, List.cons_append]
def moved {α : Type} (l : List α) (i p : Nat) : List α := (l.take i ++ l.drop (i + 1)).take p ++ ((l.drop i).take 1 ++ (l.take i ++ l.drop (i + 1)).drop p)
theorem moved_map {α β : Type} (f : α → β) (l : List α) (i p : Nat) : (moved l i p).map f = moved (l.map f) i p := by
 simp [moved, List.map_append, List.map_take, List.map_drop]
theorem rest_len {α : Type} {l : List α} {i : Nat} (hi : i < l.length) : (l.take i ++ l.drop (i + 1)).length + 1 = l.length := by
 rw [List.length_append, List.length_take, List.length_drop]; omega
theorem moved_self {α : Type} {l : List α} {i : Nat} (hi : i < l.length) : moved l i i = l := by
 have h1 : (l.take i).length = i := by rw [List.length_take]; omega
 unfold moved
 rw [List.take_append_of_le_length (by omega), List.take_of_length_le (l := l.take i) (by omega), List.drop_append, h1, Nat.sub_self, List.drop_zero, (show (l.take i).drop _ = [] from List.drop_eq_nil_of_le (by omega)), List.nil_append]
 rw [List.drop_eq_getElem_cons hi]
 simp only [List.take_succ_cons, List.take_zero, List.singleton_append]
 rw [← List.drop_eq_getElem_cons hi, List.take_append_drop]
theorem moved_step {α : Type} {l : List α} {i p : Nat} (hi : i < l.length) (hp : p < i) : exch (moved l i (p + 1)) p = moved l i p := by
 obtain ⟨r, hr⟩ : ∃ r, r = l.take i ++ l.drop (i + 1) := ⟨_, rfl⟩
 have hrl : r.length + 1 = l.length := by rw [hr]; exact rest_len hi
 have hpr : p < r.length := by omega
 unfold moved
 rw [← hr, List.drop_eq_getElem_cons hi]
 simp only [List.take_succ_cons, List.take_zero, List.singleton_append]
 have e1 : r.take (p + 1) = r.take p ++ [r[p]] := take_snoc' r p _ (List.getElem?_eq_getElem hpr)
 have e2 : r.drop p = r[p] :: r.drop (p + 1) := List.drop_eq_getElem_cons hpr
 have e3 : (r.take p).length = p := by rw [List.length_take]; omega
 have h := exch_mid r[p] l[i] (r.drop (p + 1)) (r.take p)
 rw [e3] at h
 rw [e1, e2, List.append_assoc, List.singleton_append]
 exact h
theorem moved_len {α : Type} {l : List α} {i p : Nat} (hi : i < l.length) : (moved l i p).length = l.length := by
 have h := rest_len hi
 unfold moved
 rw [List.length_append, List.length_append, List.length_take, List.length_take, List.length_drop, List.length_drop]; omega
theorem moved_mem {α : Type} {l : List α} {i p : Nat} {x : α} (h : x ∈ moved l i p) : x ∈ l := by
 have hr : ∀ y, y ∈ l.take i ++ l.drop (i + 1) → y ∈ l := fun y hy => by
  rcases List.mem_append.1 hy with q | q
  ·exact List.mem_of_mem_take q
  ·exact List.mem_of_mem_drop q
 unfold moved at h
 rcases List.mem_append.1 h with q | q
 ·exact hr x (List.mem_of_mem_take q)
 ·rcases List.mem_append.1 q with q | q
  ·exact List.mem_of_mem_drop (List.mem_of_mem_take q)
  ·exact hr x (List.mem_of_mem_drop q)
theorem moved_E {ls : List LawD} {i p : Nat} (h : lawsE ls = 0) (hi : i < ls.length) : lawsE (moved ls i p) = 0 := lawsE_sub h (Nat.le_of_eq (moved_len hi)) fun l hl => moved_mem hl
theorem moved_exch {α : Type} {l : List α} {i : Nat} (hi : i + 1 < l.length) : moved l i (i + 1) = exch l i := by
 obtain ⟨x, hx⟩ : ∃ x, x = l[i]'(by omega) := ⟨_, rfl⟩
 obtain ⟨y, hy⟩ : ∃ y, y = l[i + 1] := ⟨_, rfl⟩
 have e0 : l.drop i = x :: y :: l.drop (i + 2) := by rw [List.drop_eq_getElem_cons (by omega : i < l.length), List.drop_eq_getElem_cons hi, hx, hy]
 have e1 : l.drop (i + 1) = y :: l.drop (i + 2) := by rw [List.drop_eq_getElem_cons hi, hy]
 have e2 : (l.take i).length = i := by rw [List.length_take]; omega
 have e3 : l = l.take i ++ x :: y :: l.drop (i + 2) := by rw [← e0, List.take_append_drop]
 have h := exch_mid x y (l.drop (i + 2)) (l.take i)
 rw [e2, ← e3] at h
 rw [h]
 unfold moved
 rw [e0, e1]
 rw [List.take_append, e2, List.take_of_length_le (l := l.take i) (by omega), List.drop_append, e2, (show (l.take i).drop _ = [] from List.drop_eq_nil_of_le (by omega)), show i + 1 - i = 1 by omega]
 simp
def placeGo (ls : List LawD) (wss : List (List Snd)) (i : Nat) : Nat → Int × Nat
 | 0 => (0, 0)
 | p + 1 => if (outsM (moved ls i p) wss).1 ≠ 0 then ((outsM (moved ls i p) wss).1, 0) else if diffN (outsM ls wss).2 (outsM (moved ls i p) wss).2 ≠ none then (0, p + 1) else placeGo ls wss i p
def blocksGo (ls : List LawD) (wss : List (List Snd)) : Nat → Nat → List Nat → Int × List Nat
 | 0, _, done => (0, done)
 | n + 1, i, done => if (placeGo ls wss i i).1 ≠ 0 then ((placeGo ls wss i i).1, []) else blocksGo ls wss n (i + 1) (done ++ [(placeGo ls wss i i).2])
def blocksM (ls : List LawD) (wss : List (List Snd)) : Int × List Nat :=
 if chkM ls wss ≠ 0 then (chkM ls wss, []) else if (outsM ls wss).1 ≠ 0 then ((outsM ls wss).1, []) else blocksGo ls wss ls.length 0 []
def sameTo (ls ls' : List LawD) (wss : List (List Snd)) : Prop := allOK ls' wss ∧ endsL ls wss = endsL ls' wss
def elseTo (ls ls' : List LawD) (wss : List (List Snd)) : Prop := allOK ls' wss ∧ endsL ls wss ≠ endsL ls' wss
theorem place_cases {ls : List LawD} {wss : List (List Snd)} {i : Nat} (h : lawsE ls = 0) (hw : ∀ ws ∈ wss, wcheck ws = 0) (hi : i < ls.length) (ha : allOK ls wss) : ∀ k, k ≤ i →
  placeGo ls wss i k = (11, 0) ∨ ∃ p, placeGo ls wss i k = (0, p) ∧ p ≤ k ∧ (∀ q, p ≤ q → q < k → sameTo ls (moved ls i q) wss) ∧ (∀ q, q + 1 = p → elseTo ls (moved ls i q) wss)
 | 0, _ => .inr ⟨0, rfl, rr, fun q h1 h2 => by omega, fun q h1 => by omega⟩
 | k + 1, hk => by
  have ho : outsM ls wss = (0, endsL ls wss) := by
   rcases outs_cases h hw with ⟨_, q⟩ | ⟨q, _⟩
   ·exact absurd ha q
   ·exact q
  rw [placeGo, ho]
  rcases outs_cases (moved_E (p := k) h hi) hw with ⟨h1, h2⟩ | ⟨h1, h2⟩
  ·rw [h1, if_pos (by decide)]; exact .inl rfl
  rw [h1, if_neg (by simp)]
  have hd := diffN_eq (x := endsL ls wss) (y := endsL (moved ls i k) wss) (by simp [endsL])
  by_cases he : endsL ls wss = endsL (moved ls i k) wss
  ·rw [if_neg (by simpa using hd.2 he)]
   rcases place_cases h hw hi ha k (by omega) with h3 | ⟨p, h3, h4, h5, h6⟩
   ·exact .inl h3
   ·refine .inr ⟨p, h3, by omega, fun q h7 h8 => ?_, h6⟩
    rcases Nat.lt_or_ge q k with h9 | h9
    ·exact h5 q h7 h9
    ·obtain rfl : q = k := by omega
     exact ⟨h2, he⟩
  ·rw [if_pos (fun q => he (hd.1 q))]
   refine .inr ⟨k + 1, rfl, rr, fun q h7 h8 => by omega, fun q h7 => ?_⟩
   obtain rfl : q = k := by omega
   exact ⟨h2, he⟩
theorem lawE_17 (l : LawD) : lawE l = 0 ∨ lawE l = 17 := by unfold lawE; split; exact .inr rfl; exact .inl rfl
theorem lawsE_two {a b : LawD} (ha : lawE a = 0) (hb : lawE b = 0) : lawsE [a, b] = 0 := by unfold lawsE; simp [ha, hb]
theorem lawsE_two_bad {a b : LawD} (h : lawE a ≠ 0 ∨ lawE b ≠ 0) : lawsE [a, b] = 17 := by
 unfold lawsE
 rw [if_neg (by simp), if_pos]
 rcases h with h | h <;> simp [h]
theorem chk_two {ls : List LawD} {ws : List Snd} (h : lawsE ls = 0) : chkM ls [ws] = wcheck ws := by
 unfold chkM firstE
 rw [if_neg (by simpa using h), if_neg (by simp)]
 by_cases h : wcheck ws = 0
 ·rw [h]; simp [h]
 ·simp [h]
theorem chk_two_bad {ls : List LawD} {wss : List (List Snd)} {e : Int} (h : lawsE ls = e) (he : e ≠ 0) : chkM ls wss = e := by unfold chkM; rw [h, if_pos he]
theorem endM_two (a b : LawD) (ws : List Snd) : endM [a, b] ws = if (applyM a ws).1 ≠ 0 then ((applyM a ws).1, []) else if (applyM b (applyM a ws).2).1 ≠ 0 then ((applyM b (applyM a ws).2).1, []) else (0, (applyM b (applyM a ws).2).2) := rfl
theorem allOK_one {ls : List LawD} {ws : List Snd} : allOK ls [ws] ↔ (endM ls ws).1 = 0 := by
 constructor
 ·intro h; exact h ws (List.mem_cons_self ..)
 ·intro h x hx
  have hx' : x = ws := by simpa using hx
  rw [hx']; exact h
theorem two_ok {a b : LawD} {ws : List Snd} : (endM [a, b] ws).1 = 0 ↔ (applyM a ws).1 = 0 ∧ (applyM b (applyM a ws).2).1 = 0 := by
 rw [endM_two]
 by_cases h : (applyM a ws).1 = 0
 ·rw [if_neg (by simpa using h)]
  by_cases h2 : (applyM b (applyM a ws).2).1 = 0
  ·rw [if_neg (by simpa using h2)]; exact ⟨fun _ => ⟨h, h2⟩, fun _ => rfl⟩
  ·rw [if_pos h2]; exact ⟨fun q => absurd q h2, fun q => absurd q.2 h2⟩
 ·rw [if_pos h]; exact ⟨fun q => absurd q h, fun q => absurd q.1 h⟩
theorem two_end {a b : LawD} {ws : List Snd} (h : (endM [a, b] ws).1 = 0) : (endM [a, b] ws).2 = (applyM b (applyM a ws).2).2 := by
 obtain ⟨h1, h2⟩ := two_ok.1 h
 rw [endM_two, if_neg (by simpa using h1), if_neg (by simpa using h2)]
theorem swaps_two {a b : LawD} {wss : List (List Snd)} : swapsM [a, b] wss = if chkM [a, b] wss ≠ 0 then (chkM [a, b] wss, []) else if (matM [a, b] 0 wss).2.2 ≠ 0 then ((matM [a, b] 0 wss).2.2, []) else (0, if (matM [a, b] 0 wss).2.1 then [0] else []) := by
 unfold swapsM
 show (if _ then _ else swapsGo [a, b] wss 1 0 []) = _
 rw [swapsGo]
 rfl
theorem two_cases (a b : LawD) (ws : List Snd) :
  (∃ er, er ≠ 0 ∧ relM a b ws = (0, er) ∧ matM [a, b] 0 [ws] = (0, false, er) ∧ swapsM [a, b] [ws] = (er, [])) ∨
  (relM a b ws = (relN a b ws, 0) ∧ matM [a, b] 0 [ws] = (0, orderedB a b ws, 0) ∧ swapsM [a, b] [ws] = (0, if orderedB a b ws then [0] else [])) := by
 rw [swaps_two]
 by_cases hl : lawE a ≠ 0 ∨ lawE b ≠ 0
 ·have hc := chk_two_bad (wss := [ws]) (lawsE_two_bad hl) (by decide)
  refine .inl ⟨17, by decide, rel_law hl, ?_, ?_⟩
  ·rw [mat_chk (by rw [hc]; decide), hc]
  ·rw [hc, if_pos (by decide)]
 have ha : lawE a = 0 := Decidable.byContradiction fun q => hl (.inl q)
 have hb : lawE b = 0 := Decidable.byContradiction fun q => hl (.inr q)
 have hc := chk_two (ws := ws) (lawsE_two ha hb)
 by_cases hw : wcheck ws = 0
 case neg =>
  refine .inl ⟨wcheck ws, hw, rel_word ha hb hw, ?_, ?_⟩
  ·rw [mat_chk (by rw [hc]; exact hw), hc]
  ·rw [hc, if_pos hw]
 rw [hw] at hc
 rw [hc, if_neg (by decide)]
 have hx : exch [a, b] 0 = [b, a] := rfl
 by_cases hf : FourOK a b ws
 ·right
  have o1 : allOK [a, b] [ws] := allOK_one.2 (two_ok.2 ⟨hf.1, hf.2.2.1⟩)
  have o2 : allOK [b, a] [ws] := allOK_one.2 (two_ok.2 ⟨hf.2.1, hf.2.2.2⟩)
  have e1 : endsL [a, b] [ws] = [(applyM b (applyM a ws).2).2] := by simp [endsL, two_end (allOK_one.1 o1)]
  have e2 : endsL [b, a] [ws] = [(applyM a (applyM b ws).2).2] := by simp [endsL, two_end (allOK_one.1 o2)]
  refine ⟨rel_good ha hb hf, ?_⟩
  rcases mat_cases (i := 0) hc (by simp) with ⟨_, h | h⟩ | ⟨_, _, k, h1, h2, h3, _⟩ | ⟨_, _, h1, h2⟩
  ·exact absurd o1 h
  ·exact absurd o2 h
  ·obtain rfl : k = 0 := by simpa using h2
   rw [hx, e1, e2] at h3
   have hob : orderedB a b ws = true := by unfold orderedB; simpa using h3
   rw [show ((0 : Nat) : Int) = 0 from rfl] at h1
   rw [h1, hob]; exact ⟨rfl, rfl⟩
  ·rw [hx, e1, e2] at h2
   have hob : orderedB a b ws = false := by unfold orderedB; simpa using h2
   rw [show ((0 : Nat) : Int) = 0 from rfl] at h1
   rw [h1, hob]; exact ⟨rfl, rfl⟩
 ·left
  refine ⟨11, by decide, rel_long ha hb hw hf, ?_⟩
  have hno : ¬ (allOK [a, b] [ws] ∧ allOK [b, a] [ws]) := fun ⟨q1, q2⟩ => by
   have r1 := two_ok.1 (allOK_one.1 q1)
   have r2 := two_ok.1 (allOK_one.1 q2)
   exact hf ⟨r1.1, r2.1, r1.2, r2.2⟩
  rcases mat_cases (i := 0) hc (by simp) with ⟨h1, _⟩ | ⟨q1, q2, _⟩ | ⟨q1, q2, _⟩
  ·rw [show ((0 : Nat) : Int) = 0 from rfl] at h1
   rw [h1]; exact ⟨rfl, by rw [if_pos (by decide)]⟩
  ·exact absurd ⟨q1, hx ▸ q2⟩ hno
  ·exact absurd ⟨q1, hx ▸ q2⟩ hno
theorem around_two {ls : List LawD} {n : Nat} {a b : LawD} (ha : ls[n]? = some a) (hb : ls[n + 1]? = some b) : ls = ls.take n ++ a :: b :: ls.drop (n + 2) ∧ exch ls n = ls.take n ++ b :: a :: ls.drop (n + 2) := by
 obtain ⟨h1, h2⟩ := List.getElem?_eq_some_iff.1 ha
 obtain ⟨h3, h4⟩ := List.getElem?_eq_some_iff.1 hb
 have e0 : ls.drop n = a :: b :: ls.drop (n + 2) := by rw [List.drop_eq_getElem_cons h1, List.drop_eq_getElem_cons h3, h2, h4]
 have e1 : ls = ls.take n ++ a :: b :: ls.drop (n + 2) := by rw [← e0, List.take_append_drop]
 refine ⟨e1, ?_⟩
 have hl : (ls.take n).length = n := by rw [List.length_take]; omega
 have hA : (ls.take n ++ a :: b :: ls.drop (n + 2))[n]? = some a := by rw [← e1]; exact ha
 have hB : (ls.take n ++ a :: b :: ls.drop (n + 2))[n + 1]? = some b := by rw [← e1]; exact hb
 rw [exch_of ha hb]
 conv => lhs; rw [e1]
 rw [List.set_append_right _ _ (by omega), hl, Nat.sub_self, List.set_cons_zero, List.set_append_right _ _ (by omega), hl, show n + 1 - n = 0 + 1 by omega, List.set_cons_succ, List.set_cons_zero]
theorem endM_cons2 {a b : LawD} {r : List LawD} {x : List Snd} (h1 : (applyM a x).1 = 0) (h2 : (applyM b (applyM a x).2).1 = 0) : endM (a :: b :: r) x = endM r (applyM b (applyM a x).2).2 := by
 rw [endM_good h1, endM_good h2]
theorem near_same {ls : List LawD} {n : Nat} {a b : LawD} {ws : List Snd} (ha : ls[n]? = some a) (hb : ls[n + 1]? = some b) (h0 : (endM ls ws).1 = 0) (hf : FourOK a b (endM (ls.take n) ws).2) (ho : orderedB a b (endM (ls.take n) ws).2 = false) :
  endM (exch ls n) ws = endM ls ws := by
 obtain ⟨e1, e2⟩ := around_two ha hb
 have ht := end_take h0 n
 have hq : (applyM b (applyM a (endM (ls.take n) ws).2).2).2 = (applyM a (applyM b (endM (ls.take n) ws).2).2).2 := by
  unfold orderedB at ho; simpa using ho
 rw [e2]
 conv => rhs; rw [e1]
 rw [endM_append, endM_append, if_neg (by simpa using ht), if_neg (by simpa using ht), endM_cons2 hf.1 hf.2.2.1, endM_cons2 hf.2.1 hf.2.2.2, hq]
end Go.Proofs.YtcpcojgmmpnkoaaGreatDoor

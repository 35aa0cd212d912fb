/-
  Words of an alphabet (chapter 11), in plain words: the order of sounds, all words of some sounds in order, and how one goes from one to the next.
  Lists in order (chapter 11), in plain words: sounds that are sorted, words in the order of the chapter, lists with one more that are in order.
  Words that laws turn into others (chapter 11), in plain words.
  What the statements of chapter 11 ask, in plain words: pairs of words that become the same; all words by their numbers.
  Chapter 11, in plain words: few words, one law alone, no laws.
  The alphabets, words and laws that the statements of chapter 11 use, in plain words.
  What Image, Lost and Fixed come to (chapter 11), in plain words.
  cmp.Compare, cmp.Or and feats.Order, with how the world grows; slices.Contains over sounds.
  word.Order; how inverse.Image compares words.
-/
import Derived.Sort.Grow
import Derived.Deep.Draws
import Derived.Sort.Statements
import Derived.Shelf.SlSortCmp.NoneTotal
import Derived.Test.YtlgliddhideflaaGreatDoorG23
set_option linter.all false
set_option maxRecDepth 100000
set_option maxHeartbeats 4000000
namespace Go.Proofs.YtlgliddhideflaaGreatDoor
open Go.RowKit Go.Shelf
def sndLt (a b : Snd) : Bool := decide (a.1 < b.1) || (decide (a.1 = b.1) && decide (a.2 < b.2))
def wordsM (l : List Snd) : Nat → List (List Snd)
 | 0 => [[]]
 | n + 1 => (wordsM l n).flatMap fun v => l.map fun s => v ++ [s]
theorem words_len (l : List Snd) (n : Nat) : (wordsM l n).length = l.length ^ n := by
 induction n with
 | zero => rfl
 | succ n ih =>
  rw [wordsM, List.length_flatMap, Nat.pow_succ, ← ih]
  simp only [List.length_map]
  generalize wordsM l n = L
  induction L with
  | nil => simp
  | cons x r ih => simp [ih, Nat.succ_mul]; omega
def digN (k : Nat) (p : List Nat) : Nat := p.foldl (fun a d => a * k + d) 0
theorem digN_snoc (k : Nat) (p : List Nat) (d : Nat) : digN k (p ++ [d]) = digN k p * k + d := by simp [digN]
theorem words_flat {α β : Type} (f : α → List β) (m : Nat) : ∀ (l : List α), (∀ x ∈ l, (f x).length = m) → ∀ (i d : Nat) (x : α), l[i]? = some x → d < m → (l.flatMap f)[i * m + d]? = (f x)[d]?
 | [], _, i, d, x, h, _ => by simp at h
 | y :: r, hl, i, d, x, h, hd => by
  rw [List.flatMap_cons]
  cases i with
  | zero =>
   obtain rfl : y = x := by simpa using h
   rw [Nat.zero_mul, Nat.zero_add, List.getElem?_append_left (by rw [hl y List.mem_cons_self]; exact hd)]
  | succ i =>
   rw [List.getElem?_append_right (by rw [hl y List.mem_cons_self, Nat.succ_mul]; omega), hl y List.mem_cons_self, show (i + 1) * m + d - m = i * m + d by rw [Nat.succ_mul]; omega]
   exact words_flat f m r (fun z hz => hl z (List.mem_cons_of_mem _ hz)) i d x (by simpa using h) hd
def digW (l : List Snd) (p : List Nat) : List Snd := p.map fun d => l.getD d (0, 0)
theorem words_at (l : List Snd) : ∀ (n : Nat) (p : List Nat), p.length = n → (∀ d ∈ p, d < l.length) → (wordsM l n)[digN l.length p]? = some (digW l p)
 | 0, p, hp, _ => by
  have : p = [] := List.eq_nil_of_length_eq_zero hp
  subst this; rfl
 | n + 1, p, hp, hd => by
  have hne : p ≠ [] := fun e => by rw [e] at hp; cases hp
  obtain ⟨q, d, rfl⟩ : ∃ q d, p = q ++ [d] := ⟨p.dropLast, p.getLast hne, (List.dropLast_concat_getLast hne).symm⟩
  have hq : q.length = n := by simpa using hp
  have hdl : d < l.length := hd d (by simp)
  have ih := words_at l n q hq fun x hx => hd x (List.mem_append.2 (.inl hx))
  rw [wordsM, digN_snoc, words_flat _ l.length _ (fun x _ => by simp) _ _ _ ih hdl, List.getElem?_map, List.getElem?_eq_getElem hdl]
  simp [digW, List.getD_eq_getElem?_getD, List.getElem?_eq_getElem hdl]
theorem digN_lt {k : Nat} : ∀ (n : Nat) (p : List Nat), p.length = n → (∀ d ∈ p, d < k) → digN k p < k ^ n
 | 0, p, hp, _ => by
  have : p = [] := List.eq_nil_of_length_eq_zero hp
  subst this; simp [digN]
 | n + 1, p, hp, hd => by
  have hne : p ≠ [] := fun e => by rw [e] at hp; cases hp
  obtain ⟨q, d, rfl⟩ : ∃ q d, p = q ++ [d] := ⟨p.dropLast, p.getLast hne, (List.dropLast_concat_getLast hne).symm⟩
  have hq : q.length = n := by simpa using hp
  have hdl : d < k := hd d (by simp)
  have ih := digN_lt n q hq fun x hx => hd x (List.mem_append.2 (.inl hx))
  rw [digN_snoc, Nat.pow_succ]
  calc digN k q * k + d < digN k q * k + k := by omega
   _ = (digN k q + 1) * k := by rw [Nat.succ_mul]
   _ ≤ k ^ n * k := Nat.mul_le_mul_right _ ih
theorem digN_zero (k n : Nat) : digN k (List.replicate n 0) = 0 := by
 induction n with
 | zero => rfl
 | succ n ih => rw [List.replicate_succ', digN_snoc, ih]; simp
theorem digN_zeros (k m : Nat) (p : List Nat) : digN k (p ++ List.replicate m 0) = digN k p * k ^ m := by
 induction m with
 | zero => simp
 | succ m ih => rw [List.replicate_succ', ← List.append_assoc, digN_snoc, ih, Nat.pow_succ, Nat.add_zero, Nat.mul_assoc]
def Back (k n : Nat) (p : List Nat) (i : Nat) (q : List Nat) : Prop := i ≤ n ∧ q = p.take i ++ List.replicate (n - i) 0 ∧ digN k p + 1 = (digN k (p.take i) + 1) * k ^ (n - i)
theorem Back.start {k n : Nat} {p : List Nat} (hp : p.length = n) : Back k n p n p := ⟨rr, by rw [Nat.sub_self, ← hp, List.take_length]; simp, by rw [Nat.sub_self, ← hp, List.take_length]; simp⟩
theorem Back.digit {k n : Nat} {p : List Nat} {i : Nat} {q : List Nat} (h : Back k n p (i + 1) q) (hp : p.length = n) : q[i]? = p[i]? := by
 obtain ⟨h1, rfl, _⟩ := h
 rw [List.getElem?_append_left (by rw [List.length_take]; omega), List.getElem?_take_of_lt (by omega)]
theorem Back.step {k n : Nat} {p : List Nat} {i d : Nat} {q : List Nat} (h : Back k n p (i + 1) q) (hp : p.length = n) (hd : p[i]? = some d) (hk : d + 1 = k) : Back k n p i (q.set i 0) := by
 obtain ⟨h1, rfl, h2⟩ := h
 have ht : p.take (i + 1) = p.take i ++ [d] := take_snoc' p i d hd
 refine ⟨by omega, ?_, ?_⟩
 ·rw [ht, List.append_assoc, List.set_append_right _ _ (by rw [List.length_take]; omega), List.length_take, Nat.min_eq_left (by omega), Nat.sub_self]
  rw [show n - i = (n - (i + 1)) + 1 by omega, List.replicate_succ]; rfl
 ·rw [h2, ht, digN_snoc, show digN k (p.take i) * k + d + 1 = (digN k (p.take i) + 1) * k by rw [Nat.succ_mul]; omega, show n - i = (n - (i + 1)) + 1 by omega, Nat.pow_succ', Nat.mul_assoc]
theorem Back.next {k n : Nat} {p : List Nat} {i d : Nat} {q : List Nat} (h : Back k n p (i + 1) q) (hp : p.length = n) (hd : p[i]? = some d) (hall : ∀ x ∈ p, x < k) (hk : d + 1 < k) :
  (q.set i (d + 1)).length = n ∧ (∀ x ∈ q.set i (d + 1), x < k) ∧ digN k (q.set i (d + 1)) = digN k p + 1 := by
 obtain ⟨h1, rfl, h2⟩ := h
 have ht : p.take (i + 1) = p.take i ++ [d] := take_snoc' p i d hd
 have hs : (p.take (i + 1) ++ List.replicate (n - (i + 1)) 0).set i (d + 1) = (p.take i ++ [d + 1]) ++ List.replicate (n - (i + 1)) 0 := by
  rw [ht, List.append_assoc, List.set_append_right _ _ (by rw [List.length_take]; omega), List.length_take, Nat.min_eq_left (by omega), Nat.sub_self, List.append_assoc]; rfl
 rw [hs]
 refine ⟨?_, fun x hx => ?_, ?_⟩
 ·simp; omega
 ·rcases List.mem_append.1 hx with hx | hx
  ·rcases List.mem_append.1 hx with hx | hx
   ·exact hall x (List.mem_of_mem_take hx)
   ·have : x = d + 1 := by simpa using hx
    omega
  ·have := List.eq_of_mem_replicate hx; omega
 ·rw [digN_zeros, digN_snoc, h2, ht, digN_snoc, Nat.add_assoc]
theorem Back.last {k n : Nat} {p q : List Nat} (h : Back k n p 0 q) : digN k p + 1 = k ^ n := by
 obtain ⟨_, _, h2⟩ := h
 rw [h2]; simp [digN]
section
variable {α : Type}
structure Strict (lt : α → α → Bool) : Prop where
 irr : ∀ a, lt a a = false
 tr : ∀ a b c, lt a b = true → lt b c = true → lt a c = true
 tot : ∀ a b, lt a b = false → lt b a = false → a = b
theorem strict_unique {lt : α → α → Bool} (h : Strict lt) : ∀ xs ys : List α, xs.Pairwise (fun a b => lt a b = true) → ys.Pairwise (fun a b => lt a b = true) → (∀ a, a ∈ xs ↔ a ∈ ys) → xs = ys
 | [], [], _, _, _ => rfl
 | [], y :: ys, _, _, hm => by have := (hm y).2 List.mem_cons_self; cases this
 | x :: xs, [], _, _, hm => by have := (hm x).1 List.mem_cons_self; cases this
 | x :: xs, y :: ys, hx, hy, hm => by
  rw [List.pairwise_cons] at hx hy
  have hxy : x = y := by
   rcases List.mem_cons.1 ((hm x).1 List.mem_cons_self) with e | e
   ·exact e
   ·rcases List.mem_cons.1 ((hm y).2 List.mem_cons_self) with e' | e'
    ·exact e'.symm
    ·have h1 := hy.1 x e
     have h2 := hx.1 y e'
     have h3 := h.tr _ _ _ h1 h2
     rw [h.irr] at h3; cases h3
  subst hxy
  congr 1
  refine strict_unique h xs ys hx.2 hy.2 fun a => ⟨fun ha => ?_, fun ha => ?_⟩
  ·rcases List.mem_cons.1 ((hm a).1 (List.mem_cons_of_mem _ ha)) with e | e
   ·subst e; have := hx.1 a ha; rw [h.irr] at this; cases this
   ·exact e
  ·rcases List.mem_cons.1 ((hm a).2 (List.mem_cons_of_mem _ ha)) with e | e
   ·subst e; have := hy.1 a ha; rw [h.irr] at this; cases this
   ·exact e
def putL (lt : α → α → Bool) [DecidableEq α] (x : α) : List α → List α
 | [] => [x]
 | y :: r => if lt y x = true then y :: putL lt x r else if y = x then y :: r else x :: y :: r
variable [DecidableEq α]
theorem putL_mem (lt : α → α → Bool) (x a : α) : ∀ l : List α, a ∈ putL lt x l ↔ a = x ∨ a ∈ l
 | [] => by simp [putL]
 | y :: r => by
  unfold putL
  split
  ·rw [List.mem_cons, putL_mem lt x a r, List.mem_cons]
   constructor
   ·rintro (h | h | h)
    ·exact .inr (.inl h)
    ·exact .inl h
    ·exact .inr (.inr h)
   ·rintro (h | h | h)
    ·exact .inr (.inl h)
    ·exact .inl h
    ·exact .inr (.inr h)
  ·split
   ·rename_i h; subst h
    rw [List.mem_cons]
    constructor
    ·exact fun h => .inr h
    ·rintro (h | h)
     ·exact .inl h
     ·exact h
   ·rw [List.mem_cons]
theorem putL_sorted {lt : α → α → Bool} (h : Strict lt) (x : α) : ∀ l : List α, l.Pairwise (fun a b => lt a b = true) → (putL lt x l).Pairwise (fun a b => lt a b = true)
 | [], _ => by simp [putL]
 | y :: r, hl => by
  rw [List.pairwise_cons] at hl
  unfold putL
  split
  ·rename_i h1
   rw [List.pairwise_cons]
   refine ⟨fun a ha => ?_, putL_sorted h x r hl.2⟩
   rcases (putL_mem lt x a r).1 ha with e | e
   ·rw [e]; exact h1
   ·exact hl.1 a e
  ·split
   ·rw [List.pairwise_cons]; exact hl
   ·rename_i h1 h2
    have hxy : lt x y = true := by
     cases hb : lt x y with
     | true => rfl
     | false => exact absurd (h.tot y x (by simpa using h1) hb) h2
    rw [List.pairwise_cons]
    refine ⟨fun a ha => ?_, by rw [List.pairwise_cons]; exact hl⟩
    rcases List.mem_cons.1 ha with e | e
    ·rw [e]; exact hxy
    ·exact h.tr _ _ _ hxy (hl.1 a e)
def setL (lt : α → α → Bool) (l : List α) : List α := l.foldl (fun out x => putL lt x out) []
theorem foldl_putL {lt : α → α → Bool} (h : Strict lt) : ∀ (l out : List α), out.Pairwise (fun a b => lt a b = true) → (l.foldl (fun out x => putL lt x out) out).Pairwise (fun a b => lt a b = true) ∧ ∀ a, a ∈ l.foldl (fun out x => putL lt x out) out ↔ a ∈ l ∨ a ∈ out
 | [], out, ho => ⟨ho, fun a => by simp⟩
 | x :: l, out, ho => by
  obtain ⟨h1, h2⟩ := foldl_putL h l (putL lt x out) (putL_sorted h x out ho)
  refine ⟨h1, fun a => ?_⟩
  rw [List.foldl_cons, h2, putL_mem, List.mem_cons]
  constructor
  ·rintro (e | e | e)
   ·exact .inl (.inr e)
   ·exact .inl (.inl e)
   ·exact .inr e
  ·rintro ((e | e) | e)
   ·exact .inr (.inl e)
   ·exact .inl e
   ·exact .inr (.inr e)
theorem setL_sorted {lt : α → α → Bool} (h : Strict lt) (l : List α) : (setL lt l).Pairwise (fun a b => lt a b = true) := (foldl_putL h l [] List.Pairwise.nil).1
theorem setL_mem {lt : α → α → Bool} (h : Strict lt) (l : List α) (a : α) : a ∈ setL lt l ↔ a ∈ l := by
 have := (foldl_putL h l [] List.Pairwise.nil).2 a
 rw [setL, this]; simp
def compactL : List α → List α
 | [] => []
 | [x] => [x]
 | x :: y :: r => if x = y then compactL (y :: r) else x :: compactL (y :: r)
theorem compactL_mem (a : α) : ∀ l : List α, a ∈ compactL l ↔ a ∈ l
 | [] => by simp [compactL]
 | [x] => by simp [compactL]
 | x :: y :: r => by
  have ih := compactL_mem a (y :: r)
  unfold compactL
  split
  ·rename_i h; subst h
   rw [ih]; simp
  ·rw [List.mem_cons, ih]; simp
theorem compactL_sorted {lt : α → α → Bool} (h : Strict lt) : ∀ l : List α, l.Pairwise (fun a b => lt b a = false) → (compactL l).Pairwise (fun a b => lt a b = true)
 | [], _ => by simp [compactL]
 | [x], _ => by simp [compactL]
 | x :: y :: r, hl => by
  rw [List.pairwise_cons] at hl
  unfold compactL
  split
  ·exact compactL_sorted h (y :: r) hl.2
  ·rename_i hxy
   rw [List.pairwise_cons]
   refine ⟨fun a ha => ?_, compactL_sorted h (y :: r) hl.2⟩
   rw [compactL_mem] at ha
   have h1 := hl.1 y List.mem_cons_self
   have hlt : lt x y = true := by
    cases hb : lt x y with
    | true => rfl
    | false => exact absurd (h.tot x y hb h1) hxy
   rcases List.mem_cons.1 ha with e | e
   ·rw [e]; exact hlt
   ·have h2 := (List.pairwise_cons.1 hl.2).1 a e
    cases hb : lt y a with
    | true => exact h.tr _ _ _ hlt hb
    | false => rw [← h.tot y a hb h2]; exact hlt
theorem compact_set {lt : α → α → Bool} (h : Strict lt) {l s : List α} (hs : s.Pairwise (fun a b => lt b a = false)) (hp : ∀ a, a ∈ s ↔ a ∈ l) : compactL s = setL lt l :=
 strict_unique h _ _ (compactL_sorted h s hs) (setL_sorted h l) fun a => by rw [compactL_mem, hp, setL_mem h]
theorem sort_set {lt : α → α → Bool} (h : Strict lt) {l s : List α} (hs : s.Pairwise (fun a b => lt b a = false)) (hn : s.Nodup) (hp : ∀ a, a ∈ s ↔ a ∈ l) : s = setL lt l := by
 refine strict_unique h _ _ ?_ (setL_sorted h l) fun a => by rw [hp, setL_mem h]
 refine (List.pairwise_and_iff.2 ⟨hs, hn⟩).imp fun {a b} hab => ?_
 cases hb : lt a b with
 | true => rfl
 | false => exact absurd (h.tot a b hb hab.1) hab.2
end
theorem snd_strict : Strict sndLt where
 irr := fun a => by simp [sndLt]
 tr := fun a b c h1 h2 => by
  simp only [sndLt, Bool.or_eq_true, Bool.and_eq_true, decide_eq_true_eq] at h1 h2 ⊢
  omega
 tot := fun a b h1 h2 => by
  simp only [sndLt, Bool.or_eq_false_iff, Bool.and_eq_false_iff, decide_eq_false_iff_not] at h1 h2
  exact Prod.ext (by omega) (by omega)
def wordLt : List Snd → List Snd → Bool
 | [], [] => false
 | [], _ :: _ => true
 | _ :: _, [] => false
 | x :: xs, y :: ys => if x = y then wordLt xs ys else sndLt x y
def soonerM (v w : List Snd) : Bool := decide (v.length < w.length) || (decide (v.length = w.length) && wordLt v w)
theorem wordLt_irr : ∀ a, wordLt a a = false
 | [] => rfl
 | x :: a => by simp [wordLt, wordLt_irr a]
theorem wordLt_tr : ∀ a b c, wordLt a b = true → wordLt b c = true → wordLt a c = true
 | [], [], _, h, _ => by cases h
 | [], _ :: _, [], _, h => by cases h
 | [], _ :: _, _ :: _, _, _ => rfl
 | _ :: _, [], _, h, _ => by cases h
 | _ :: _, _ :: _, [], _, h => by cases h
 | x :: a, y :: b, z :: c, h1, h2 => by
  unfold wordLt at h1 h2 ⊢
  by_cases e1 : x = y
  ·subst e1
   rw [if_pos rfl] at h1
   by_cases e2 : x = z
   ·rw [if_pos e2] at h2 ⊢; exact wordLt_tr a b c h1 h2
   ·rw [if_neg e2] at h2 ⊢; exact h2
  ·rw [if_neg e1] at h1
   by_cases e2 : y = z
   ·subst e2; rw [if_neg e1]; exact h1
   ·rw [if_neg e2] at h2
    have h3 := snd_strict.tr _ _ _ h1 h2
    have e3 : x ≠ z := fun e => by subst e; rw [snd_strict.irr] at h3; cases h3
    rw [if_neg e3]; exact h3
theorem wordLt_tot : ∀ a b, wordLt a b = false → wordLt b a = false → a = b
 | [], [], _, _ => rfl
 | [], _ :: _, h, _ => by cases h
 | _ :: _, [], _, h => by cases h
 | x :: a, y :: b, h1, h2 => by
  unfold wordLt at h1 h2
  by_cases e1 : x = y
  ·rw [if_pos e1] at h1; rw [if_pos e1.symm] at h2
   rw [e1, wordLt_tot a b h1 h2]
  ·rw [if_neg e1] at h1; rw [if_neg (Ne.symm e1)] at h2
   exact absurd (snd_strict.tot _ _ h1 h2) e1
theorem sooner_strict : Strict soonerM where
 irr := fun a => by simp [soonerM, wordLt_irr]
 tr := fun a b c h1 h2 => by
  simp only [soonerM, Bool.or_eq_true, Bool.and_eq_true, decide_eq_true_eq] at h1 h2 ⊢
  rcases h1 with h1 | ⟨e1, h1⟩ <;> rcases h2 with h2 | ⟨e2, h2⟩
  ·left; omega
  ·left; omega
  ·left; omega
  ·right; exact ⟨by omega, wordLt_tr _ _ _ h1 h2⟩
 tot := fun a b h1 h2 => by
  simp only [soonerM, Bool.or_eq_false_iff, Bool.and_eq_false_iff, decide_eq_false_iff_not] at h1 h2
  have hl : a.length = b.length := by omega
  refine wordLt_tot a b ?_ ?_
  ·rcases h1.2 with e | e
   ·exact absurd hl e
   ·exact e
  ·rcases h2.2 with e | e
   ·exact absurd hl.symm e
   ·exact e
def refusedM (ss : List Snd) : Int := if 5 < ss.length then 12 else if ss.any (fun s => !fvalid s.1 s.2) = true then 14 else if ¬ ss.Nodup then 6 else 0
def wrongM (ls : List LawD) (w ss : List Snd) : Int := if lawsE ls ≠ 0 then lawsE ls else if wcheck w ≠ 0 then wcheck w else refusedM ss
def alphaM (ss : List Snd) : List Snd := setL sndLt ss
def searchedM (ss : List Snd) : List (List Snd) := (List.range 7).flatMap (wordsM (alphaM ss))
def beforeM (ls : List LawD) (w ss : List Snd) : List (List Snd) := (searchedM ss).filter fun v => decide (deriveM ls v = (0, w))
def backM (ls : List LawD) (w ss : List Snd) (most : Int) : Int × List (List Snd) :=
 if wrongM ls w ss ≠ 0 then (wrongM ls w ss, []) else if most < 0 then (3, []) else (0, (beforeM ls w ss).take most.toNat)
def countM (ls : List LawD) (w ss : List Snd) : Int × Int := if wrongM ls w ss ≠ 0 then (wrongM ls w ss, 0) else (0, ((beforeM ls w ss).length : Nat))
def shortM (ls : List LawD) (ss : List Snd) (n : Int) : Int := if wrongM ls [] ss ≠ 0 then wrongM ls [] ss else if n < 0 ∨ 4 < n then 3 else 0
def outsM11 (ls : List LawD) (ss : List Snd) (n : Nat) : List (List Snd × List Snd) := ((wordsM (alphaM ss) n).filter fun v => decide ((deriveM ls v).1 = 0)).map fun v => (v, (deriveM ls v).2)
def imageM (ls : List LawD) (ss : List Snd) (n : Int) : Int × List (List Snd) :=
 if shortM ls ss n ≠ 0 then (shortM ls ss n, []) else (0, setL soonerM ((outsM11 ls ss n.toNat).map fun p => p.2))
def lostGo : List (List Snd × List Snd) → List (List Snd × List Snd) → List (List Snd × List Snd)
 | [], _ => []
 | x :: r, fs => match fs.find? (fun p => decide (p.2 = x.2)) with | some p => (p.1, x.1) :: lostGo r fs | none => lostGo r (fs ++ [x])
def lostM (ls : List LawD) (ss : List Snd) (n : Int) : Int × List (List Snd × List Snd) := if shortM ls ss n ≠ 0 then (shortM ls ss n, []) else (0, lostGo (outsM11 ls ss n.toNat) [])
def fixedM (l : LawD) (ss : List Snd) (n : Int) : Int × Int :=
 if shortM [l] ss n ≠ 0 then (shortM [l] ss n, 0) else (0, (((outsM11 [l] ss n.toNat).filter fun p => decide (p.1 = p.2)).length : Nat))
-- words of an alphabet
theorem words_mem (l : List Snd) : ∀ (n : Nat) (v : List Snd), v ∈ wordsM l n ↔ v.length = n ∧ ∀ s ∈ v, s ∈ l
 | 0, v => by
  simp only [wordsM, List.mem_singleton]
  constructor
  ·rintro rfl; exact ⟨rfl, fun s hs => by cases hs⟩
  ·rintro ⟨h, _⟩; exact List.eq_nil_of_length_eq_zero h
 | n + 1, v => by
  simp only [wordsM, List.mem_flatMap, List.mem_map]
  constructor
  ·rintro ⟨u, hu, s, hs, rfl⟩
   obtain ⟨h1, h2⟩ := (words_mem l n u).1 hu
   refine ⟨by simp [h1], fun x hx => ?_⟩
   rcases List.mem_append.1 hx with hx | hx
   ·exact h2 x hx
   ·obtain rfl : x = s := by simpa using hx
    exact hs
  ·rintro ⟨h1, h2⟩
   have hne : v ≠ [] := fun e => by rw [e] at h1; cases h1
   refine ⟨v.dropLast, (words_mem l n _).2 ⟨by rw [List.length_dropLast]; omega, fun s hs => h2 s ((List.dropLast_sublist v).mem hs)⟩, v.getLast hne, h2 _ (List.getLast_mem hne), List.dropLast_concat_getLast hne⟩
theorem wordLt_snoc : ∀ (a b : List Snd) (x y : Snd), a.length = b.length → wordLt (a ++ [x]) (b ++ [y]) = if a = b then sndLt x y else wordLt a b
 | [], [], x, y, _ => by
  by_cases h : x = y
  ·subst h; simp [wordLt, snd_strict.irr]
  ·simp [wordLt, h]
 | [], _ :: _, _, _, h => by cases h
 | _ :: _, [], _, _, h => by cases h
 | p :: a, q :: b, x, y, h => by
  have ih := wordLt_snoc a b x y (by simpa using h)
  show (if p = q then wordLt (a ++ [x]) (b ++ [y]) else sndLt p q) = _
  by_cases e : p = q
  ·subst e
   rw [if_pos rfl, ih]
   by_cases e2 : a = b
   ·subst e2; simp
   ·rw [if_neg e2, if_neg (by simp [e2])]; simp [wordLt]
  ·rw [if_neg e, if_neg (by simp [e])]; simp [wordLt, e]
theorem words_sorted {l : List Snd} (h : l.Pairwise (fun a b => sndLt a b = true)) : ∀ n, (wordsM l n).Pairwise (fun a b => wordLt a b = true)
 | 0 => by simp [wordsM]
 | n + 1 => by
  have ih := words_sorted h n
  have hm : ∀ v ∈ wordsM l n, v.length = n := fun v hv => ((words_mem l n v).1 hv).1
  rw [wordsM]
  generalize wordsM l n = L at ih hm
  induction L with
  | nil => simp
  | cons v r ih2 =>
   rw [List.pairwise_cons] at ih
   rw [List.flatMap_cons, List.pairwise_append]
   refine ⟨?_, ih2 ih.2 (fun u hu => hm u (List.mem_cons_of_mem _ hu)), fun a ha b hb => ?_⟩
   ·rw [List.pairwise_map]
    exact h.imp fun {x y} hxy => by rw [wordLt_snoc v v x y rfl, if_pos rfl]; exact hxy
   ·obtain ⟨x, _, rfl⟩ := List.mem_map.1 ha
    obtain ⟨u, hu, hb⟩ := List.mem_flatMap.1 hb
    obtain ⟨y, _, rfl⟩ := List.mem_map.1 hb
    have h1 := ih.1 u hu
    rw [wordLt_snoc v u x y (by rw [hm v List.mem_cons_self, hm u (List.mem_cons_of_mem _ hu)]), if_neg (fun e => by rw [e, wordLt_irr] at h1; cases h1)]
    exact h1
theorem alpha_sorted (ss : List Snd) : (alphaM ss).Pairwise (fun a b => sndLt a b = true) := setL_sorted snd_strict ss
theorem alpha_mem (ss : List Snd) (s : Snd) : s ∈ alphaM ss ↔ s ∈ ss := setL_mem snd_strict ss s
theorem words_sooner {l : List Snd} (h : l.Pairwise (fun a b => sndLt a b = true)) (n : Nat) : (wordsM l n).Pairwise (fun a b => soonerM a b = true) := by
 have h1 := words_sorted h n
 have hm : ∀ v ∈ wordsM l n, v.length = n := fun v hv => ((words_mem l n v).1 hv).1
 refine h1.imp_of_mem fun {a b} ha hb hab => ?_
 unfold soonerM
 rw [hm a ha, hm b hb, hab]; simp
theorem searched_mem (ss v : List Snd) : v ∈ searchedM ss ↔ v.length ≤ 6 ∧ ∀ s ∈ v, s ∈ ss := by
 unfold searchedM
 rw [List.mem_flatMap]
 constructor
 ·rintro ⟨n, hn, hv⟩
  obtain ⟨h1, h2⟩ := (words_mem _ n v).1 hv
  have := List.mem_range.1 hn
  exact ⟨by omega, fun s hs => (alpha_mem ss s).1 (h2 s hs)⟩
 ·rintro ⟨h1, h2⟩
  exact ⟨v.length, List.mem_range.2 (by omega), (words_mem _ _ v).2 ⟨rfl, fun s hs => (alpha_mem ss s).2 (h2 s hs)⟩⟩
theorem flat_sooner {l : List Snd} (h : l.Pairwise (fun a b => sndLt a b = true)) : ∀ (ns : List Nat), ns.Pairwise (fun a b => a < b) → (ns.flatMap (wordsM l)).Pairwise (fun a b => soonerM a b = true)
 | [], _ => by simp
 | n :: ns, hn => by
  rw [List.pairwise_cons] at hn
  rw [List.flatMap_cons, List.pairwise_append]
  refine ⟨words_sooner h n, flat_sooner h ns hn.2, fun a ha b hb => ?_⟩
  obtain ⟨m, hm, hb⟩ := List.mem_flatMap.1 hb
  have h1 := ((words_mem l n a).1 ha).1
  have h2 := ((words_mem l m b).1 hb).1
  have h3 := hn.1 m hm
  unfold soonerM
  rw [h1, h2, decide_eq_true h3]; rfl
theorem searched_sooner (ss : List Snd) : (searchedM ss).Pairwise (fun a b => soonerM a b = true) := flat_sooner (alpha_sorted ss) _ (List.pairwise_lt_range)
theorem before_sooner (ls : List LawD) (w ss : List Snd) : (beforeM ls w ss).Pairwise (fun a b => soonerM a b = true) := (searched_sooner ss).filter _
theorem before_mem (ls : List LawD) (w ss v : List Snd) : v ∈ beforeM ls w ss ↔ (v.length ≤ 6 ∧ ∀ s ∈ v, s ∈ ss) ∧ deriveM ls v = (0, w) := by
 unfold beforeM
 rw [List.mem_filter, searched_mem]; simp
theorem alpha_len {ss : List Snd} (h : ss.Nodup) : (alphaM ss).length = ss.length := by
 refine List.Perm.length_eq ?_
 refine (List.perm_ext_iff_of_nodup ((alpha_sorted ss).imp fun {a b} hab e => ?_) h).2 (alpha_mem ss)
 rw [e, snd_strict.irr] at hab; cases hab
theorem searched_len {ss : List Snd} (h : ss.Nodup) : (searchedM ss).length = ((List.range 7).map fun n => ss.length ^ n).sum := by
 unfold searchedM
 rw [List.length_flatMap]
 congr 1
 apply List.map_congr_left
 intro n _
 rw [words_len, alpha_len h]
theorem pairwise_at {α : Type} {R : α → α → Prop} {l : List α} (h : l.Pairwise R) {i j : Nat} {x y : α} (hij : i < j) (hx : l[i]? = some x) (hy : l[j]? = some y) : R x y := by
 obtain ⟨hi, rfl⟩ := List.getElem?_eq_some_iff.1 hx
 obtain ⟨hj, rfl⟩ := List.getElem?_eq_some_iff.1 hy
 exact List.pairwise_iff_getElem.1 h i j hi hj hij
def seenGo : List (List Snd × List Snd) → List (List Snd × List Snd) → List (List Snd × List Snd)
 | [], fs => fs
 | x :: r, fs => if fs.any (fun p => decide (p.2 = x.2)) = true then seenGo r fs else seenGo r (fs ++ [x])
theorem find_any {fs : List (List Snd × List Snd)} {t : List Snd} : (∃ p, fs.find? (fun p => decide (p.2 = t)) = some p ∧ p ∈ fs ∧ p.2 = t) ∧ fs.any (fun p => decide (p.2 = t)) = true ∨ fs.find? (fun p => decide (p.2 = t)) = none ∧ fs.any (fun p => decide (p.2 = t)) = false := by
 cases h : fs.find? (fun p => decide (p.2 = t)) with
 | none =>
  right
  refine ⟨rfl, List.any_eq_false.2 fun p hp => ?_⟩
  exact List.find?_eq_none.1 h p hp
 | some p =>
  left
  have h1 := List.find?_some h
  have h2 := List.mem_of_find?_eq_some h
  exact ⟨⟨p, rfl, h2, by simpa using h1⟩, List.any_eq_true.2 ⟨p, h2, h1⟩⟩
theorem lost_cons_some {x p : List Snd × List Snd} {r fs : List (List Snd × List Snd)} (h : fs.find? (fun p => decide (p.2 = x.2)) = some p) : lostGo (x :: r) fs = (p.1, x.1) :: lostGo r fs := by
 rw [lostGo, h]
theorem lost_cons_none {x : List Snd × List Snd} {r fs : List (List Snd × List Snd)} (h : fs.find? (fun p => decide (p.2 = x.2)) = none) : lostGo (x :: r) fs = lostGo r (fs ++ [x]) := by
 rw [lostGo, h]
theorem lost_len : ∀ xs fs : List (List Snd × List Snd), (lostGo xs fs).length + (seenGo xs fs).length = xs.length + fs.length
 | [], fs => by simp [lostGo, seenGo]
 | x :: r, fs => by
  rcases find_any (fs := fs) (t := x.2) with ⟨⟨p, h1, _⟩, h2⟩ | ⟨h1, h2⟩
  ·rw [lost_cons_some h1, seenGo, if_pos h2]
   have := lost_len r fs
   simp only [List.length_cons]; omega
  ·rw [lost_cons_none h1, seenGo, if_neg (by simp [h2])]
   have := lost_len r (fs ++ [x])
   simp only [List.length_append, List.length_cons, List.length_nil] at this ⊢; omega
theorem seen_nodup : ∀ xs fs : List (List Snd × List Snd), (fs.map (·.2)).Nodup → ((seenGo xs fs).map (·.2)).Nodup ∧ ∀ t, t ∈ (seenGo xs fs).map (·.2) ↔ t ∈ xs.map (·.2) ∨ t ∈ fs.map (·.2)
 | [], fs, h => ⟨h, fun t => by simp [seenGo]⟩
 | x :: r, fs, h => by
  rcases find_any (fs := fs) (t := x.2) with ⟨⟨p, h1, hp, hpt⟩, h2⟩ | ⟨h1, h2⟩
  ·rw [seenGo, if_pos h2]
   obtain ⟨h3, h4⟩ := seen_nodup r fs h
   refine ⟨h3, fun t => ?_⟩
   rw [h4, List.map_cons, List.mem_cons]
   constructor
   ·rintro (e | e)
    ·exact .inl (.inr e)
    ·exact .inr e
   ·rintro ((e | e) | e)
    ·exact .inr (by rw [e, ← hpt]; exact List.mem_map.2 ⟨p, hp, rfl⟩)
    ·exact .inl e
    ·exact .inr e
  ·rw [seenGo, if_neg (by simp [h2])]
   have hn : x.2 ∉ fs.map (·.2) := fun hm => by
    obtain ⟨q, hq, e⟩ := List.mem_map.1 hm
    have := List.any_eq_false.1 h2 q hq
    simp [e] at this
   obtain ⟨h3, h4⟩ := seen_nodup r (fs ++ [x]) (by
    rw [List.map_append, List.nodup_append]
    refine ⟨h, by simp, fun a ha b hb => ?_⟩
    have : b = x.2 := by simpa using hb
    rw [this]; exact fun e => hn (by rw [← e]; exact ha))
   refine ⟨h3, fun t => ?_⟩
   simp only [h4, List.map_append, List.mem_append, List.map_cons, List.mem_cons, List.map_nil, List.not_mem_nil, or_false]
   constructor
   ·rintro (e | e | e)
    ·exact .inl (.inr e)
    ·exact .inr e
    ·exact .inl (.inl e)
   ·rintro ((e | e) | e)
    ·exact .inr (.inr e)
    ·exact .inl e
    ·exact .inr (.inl e)
theorem image_lost (xs : List (List Snd × List Snd)) : (setL soonerM (xs.map fun p => p.2)).length + (lostGo xs []).length = xs.length := by
 obtain ⟨h1, h2⟩ := seen_nodup xs [] (by simp)
 have h3 : (setL soonerM (xs.map fun p => p.2)).length = (seenGo xs []).length := by
  have hl : ((seenGo xs []).map fun p : List Snd × List Snd => p.2).length = (seenGo xs []).length := by simp
  rw [← hl]
  refine List.Perm.length_eq ((List.perm_ext_iff_of_nodup ((setL_sorted sooner_strict _).imp fun {a b} hab e => ?_) h1).2 fun t => ?_)
  ·rw [e, sooner_strict.irr] at hab; cases hab
  ·rw [setL_mem sooner_strict, h2]; simp
 have := lost_len xs []
 rw [h3]; simp at this; omega
theorem lost_mem : ∀ (xs fs : List (List Snd × List Snd)), (xs.map (·.1)).Pairwise (fun a b => soonerM a b = true) → (∀ p ∈ fs, ∀ x ∈ xs, soonerM p.1 x.1 = true) →
  ((lostGo xs fs).map (·.2)).Pairwise (fun a b => soonerM a b = true) ∧ ∀ q ∈ lostGo xs fs, ∃ p ∈ fs ++ xs, ∃ x ∈ xs, q = (p.1, x.1) ∧ p.2 = x.2 ∧ soonerM p.1 x.1 = true
 | [], fs, _, _ => ⟨by simp [lostGo], fun q hq => by simp [lostGo] at hq⟩
 | x :: r, fs, hs, hf => by
  rw [List.map_cons, List.pairwise_cons] at hs
  rcases find_any (fs := fs) (t := x.2) with ⟨⟨p, h1, hp, hpt⟩, h2⟩ | ⟨h1, h2⟩
  ·rw [lost_cons_some h1]
   obtain ⟨h3, h4⟩ := lost_mem r fs hs.2 (fun q hq y hy => hf q hq y (List.mem_cons_of_mem _ hy))
   refine ⟨?_, fun q hq => ?_⟩
   ·rw [List.map_cons, List.pairwise_cons]
    refine ⟨fun b hb => ?_, h3⟩
    obtain ⟨q, hq, rfl⟩ := List.mem_map.1 hb
    obtain ⟨_, _, y, hy, rfl, _⟩ := h4 q hq
    exact hs.1 y.1 (List.mem_map.2 ⟨y, hy, rfl⟩)
   ·rcases List.mem_cons.1 hq with e | hq
    ·exact ⟨p, List.mem_append.2 (.inl hp), x, List.mem_cons_self, e, hpt, hf p hp x List.mem_cons_self⟩
    ·obtain ⟨p', hp', y, hy, h5⟩ := h4 q hq
     refine ⟨p', ?_, y, List.mem_cons_of_mem _ hy, h5⟩
     rcases List.mem_append.1 hp' with h | h
     ·exact List.mem_append.2 (.inl h)
     ·exact List.mem_append.2 (.inr (List.mem_cons_of_mem _ h))
  ·rw [lost_cons_none h1]
   obtain ⟨h3, h4⟩ := lost_mem r (fs ++ [x]) hs.2 (fun q hq y hy => by
    rcases List.mem_append.1 hq with hq | hq
    ·exact hf q hq y (List.mem_cons_of_mem _ hy)
    ·obtain rfl : q = x := by simpa using hq
     exact hs.1 y.1 (List.mem_map.2 ⟨y, hy, rfl⟩))
   refine ⟨h3, fun q hq => ?_⟩
   obtain ⟨p', hp', y, hy, h5⟩ := h4 q hq
   refine ⟨p', ?_, y, List.mem_cons_of_mem _ hy, h5⟩
   rcases List.mem_append.1 hp' with h | h
   ·rcases List.mem_append.1 h with h | h
    ·exact List.mem_append.2 (.inl h)
    ·obtain rfl : p' = x := by simpa using h
     exact List.mem_append.2 (.inr List.mem_cons_self)
   ·exact List.mem_append.2 (.inr (List.mem_cons_of_mem _ h))
def lsd (ss : List Snd) : Nat → Nat → List Snd
 | 0, _ => []
 | n + 1, i => ss.getD (i % ss.length) (0, 0) :: lsd ss n (i / ss.length)
theorem lsd_snoc (ss : List Snd) : ∀ (n i : Nat), lsd ss (n + 1) i = lsd ss n i ++ [ss.getD (i / ss.length ^ n % ss.length) (0, 0)]
 | 0, i => by simp [lsd]
 | n + 1, i => by
  have ih := lsd_snoc ss n (i / ss.length)
  rw [lsd, ih]
  simp only [lsd, List.cons_append]
  rw [Nat.div_div_eq_div_mul, Nat.pow_succ']
theorem lsd_len (ss : List Snd) : ∀ (n i : Nat), (lsd ss n i).length = n
 | 0, _ => rfl
 | n + 1, i => by simp [lsd, lsd_len ss n]
theorem getD_mem {ss : List Snd} {i : Nat} (h : i < ss.length) : ss.getD i (0, 0) ∈ ss := by
 rw [List.getD_eq_getElem?_getD, List.getElem?_eq_getElem h]; exact List.getElem_mem h
theorem lsd_mem {ss : List Snd} (h : 0 < ss.length) : ∀ (n i : Nat), ∀ s ∈ lsd ss n i, s ∈ ss
 | 0, _, s, hs => by cases hs
 | n + 1, i, s, hs => by
  rcases List.mem_cons.1 hs with e | hs
  ·rw [e]; exact getD_mem (Nat.mod_lt _ h)
  ·exact lsd_mem h n _ s hs
theorem lsd_inj {ss : List Snd} (hn : ss.Nodup) (h : 0 < ss.length) : ∀ (n i j : Nat), i < ss.length ^ n → j < ss.length ^ n → lsd ss n i = lsd ss n j → i = j
 | 0, i, j, hi, hj, _ => by simp at hi hj; omega
 | n + 1, i, j, hi, hj, e => by
  injection e with e1 e2
  have hmi := Nat.mod_lt i h
  have hmj := Nat.mod_lt j h
  have h1 : i % ss.length = j % ss.length := by
   rw [List.getD_eq_getElem?_getD, List.getElem?_eq_getElem hmi, List.getD_eq_getElem?_getD, List.getElem?_eq_getElem hmj] at e1
   exact (List.getElem_inj hn).1 (by simpa using e1)
  have h2 := lsd_inj hn h n (i / ss.length) (j / ss.length) (Nat.div_lt_of_lt_mul (by rw [← Nat.pow_succ']; exact hi)) (Nat.div_lt_of_lt_mul (by rw [← Nat.pow_succ']; exact hj)) e2
  rw [← Nat.div_add_mod i ss.length, ← Nat.div_add_mod j ss.length, h1, h2]
theorem lsd_onto {ss : List Snd} : ∀ (n : Nat) (v : List Snd), v.length = n → (∀ s ∈ v, s ∈ ss) → ∃ i, i < ss.length ^ n ∧ lsd ss n i = v
 | 0, v, hv, _ => ⟨0, by simp, by rw [List.eq_nil_of_length_eq_zero hv]; rfl⟩
 | n + 1, [], hv, _ => by cases hv
 | n + 1, s :: v, hv, hs => by
  obtain ⟨j, hj, hjv⟩ := lsd_onto n v (by simpa using hv) (fun x hx => hs x (List.mem_cons_of_mem _ hx))
  obtain ⟨d, hd, hds⟩ := List.getElem_of_mem (hs s List.mem_cons_self)
  have h0 : 0 < ss.length := by omega
  refine ⟨d + ss.length * j, ?_, ?_⟩
  ·rw [Nat.pow_succ']
   calc d + ss.length * j < ss.length + ss.length * j := by omega
    _ = ss.length * (j + 1) := by rw [Nat.mul_add]; omega
    _ ≤ ss.length * ss.length ^ n := Nat.mul_le_mul_left _ hj
  ·rw [lsd]
   have h1 : (d + ss.length * j) % ss.length = d := by rw [Nat.add_mul_mod_self_left, Nat.mod_eq_of_lt hd]
   have h2 : (d + ss.length * j) / ss.length = j := by rw [Nat.add_mul_div_left _ _ h0, Nat.div_eq_of_lt hd]; omega
   rw [h1, h2, hjv, List.getD_eq_getElem?_getD, List.getElem?_eq_getElem hd]
   simp [hds]
theorem lsd_perm {ss : List Snd} (hn : ss.Nodup) (n : Nat) : ((List.range (ss.length ^ n)).map (lsd ss n)).Perm (wordsM (alphaM ss) n) := by
 refine (List.perm_ext_iff_of_nodup ?_ ?_).2 fun v => ?_
 ·rw [List.nodup_iff_pairwise_ne, List.pairwise_map]
  refine (List.nodup_iff_pairwise_ne.1 List.nodup_range).imp_of_mem fun {i j} hi hj hij e => ?_
  rcases Nat.eq_zero_or_pos ss.length with h0 | h0
  ·rcases n with _ | n
   ·have := List.mem_range.1 hi; have := List.mem_range.1 hj; simp at *; omega
   ·have := List.mem_range.1 hi; rw [h0] at this; simp at this
  ·exact hij (lsd_inj hn h0 n i j (List.mem_range.1 hi) (List.mem_range.1 hj) e)
 ·exact (words_sorted (alpha_sorted ss) n).imp fun {a b} hab e => by rw [e, wordLt_irr] at hab; cases hab
 ·rw [words_mem, List.mem_map]
  constructor
  ·rintro ⟨i, hi, rfl⟩
   refine ⟨lsd_len ss n i, fun s hs => (alpha_mem ss s).2 ?_⟩
   rcases Nat.eq_zero_or_pos ss.length with h0 | h0
   ·rcases n with _ | n
    ·cases hs
    ·have := List.mem_range.1 hi; rw [h0] at this; simp at this
   ·exact lsd_mem h0 n i s hs
  ·rintro ⟨h1, h2⟩
   obtain ⟨i, hi, e⟩ := lsd_onto n v h1 (fun s hs => (alpha_mem ss s).1 (h2 s hs))
   exact ⟨i, List.mem_range.2 hi, e⟩
theorem lsd_count {ss : List Snd} (hn : ss.Nodup) (n : Nat) (p : List Snd → Bool) : ((List.range (ss.length ^ n)).filter fun i => p (lsd ss n i)).length = ((wordsM (alphaM ss) n).filter p).length := by
 have h := ((lsd_perm hn n).filter p).length_eq
 rw [← h, List.filter_map, List.length_map]; rfl
theorem before_short {ls : List LawD} {w ss : List Snd} (h : ss.Nodup) (h5 : ss.length ≤ 5) : (beforeM ls w ss).length ≤ 19531 := by
 refine Nat.le_trans (List.length_filter_le _ _) ?_
 rw [searched_len h]
 have hp : ∀ n, ss.length ^ n ≤ 5 ^ n := fun n => Nat.pow_le_pow_left h5 n
 have h0 := hp 0; have h1 := hp 1; have h2 := hp 2; have h3 := hp 3; have h4 := hp 4; have h55 := hp 5; have h6 := hp 6
 simp only [List.range, List.range.loop, List.map_cons, List.map_nil, List.sum_cons, List.sum_nil]
 omega
theorem refused_none {ss : List Snd} (h : refusedM ss = 0) : ss.length ≤ 5 ∧ (∀ s ∈ ss, fvalid s.1 s.2 = true) ∧ ss.Nodup := by
 unfold refusedM at h
 by_cases h1 : 5 < ss.length
 ·rw [if_pos h1] at h; exact absurd h (by decide)
 rw [if_neg h1] at h
 by_cases h2 : ss.any (fun s => !fvalid s.1 s.2) = true
 ·rw [if_pos h2] at h; exact absurd h (by decide)
 rw [if_neg h2] at h
 by_cases h3 : ss.Nodup
 ·refine ⟨by omega, fun s hs => ?_, h3⟩
  cases hb : fvalid s.1 s.2 with
  | true => rfl
  | false => exact absurd (List.any_eq_true.2 ⟨s, hs, by simp [hb]⟩) h2
 ·rw [if_pos h3] at h; exact absurd h (by decide)
theorem wrong_none {ls : List LawD} {w ss : List Snd} (h : wrongM ls w ss = 0) : lawsE ls = 0 ∧ wcheck w = 0 ∧ refusedM ss = 0 := by
 unfold wrongM at h
 by_cases h1 : lawsE ls = 0
 ·rw [if_neg (by simpa using h1)] at h
  by_cases h2 : wcheck w = 0
  ·rw [if_neg (by simpa using h2)] at h
   exact ⟨h1, h2, h⟩
  ·rw [if_pos h2] at h; exact absurd h h2
 ·rw [if_pos h1] at h; exact absurd h h1
theorem wcheck_alpha {ss v : List Snd} (h : ∀ s ∈ ss, fvalid s.1 s.2 = true) (hv : ∀ s ∈ v, s ∈ ss) (hl : v.length ≤ 32) : wcheck v = 0 := by
 unfold wcheck
 rw [if_neg (by omega), if_pos (List.all_eq_true.2 fun s hs => by rw [wvalid_fvalid]; exact h s (hv s hs))]
theorem derive_one {l : LawD} {v : List Snd} (hl : lawsE [l] = 0) (hw : wcheck v = 0) : deriveM [l] v = if (applyM l v).1 ≠ 0 then (11, []) else (0, (applyM l v).2) := by
 rw [derive_ok hl hw]
 by_cases h : (applyM l v).1 = 0
 ·rw [endM_good h, if_neg (by simp [endM]), if_neg (by simpa using h)]; rfl
 ·rw [endM_bad h, if_pos h, if_pos h]
theorem derive_none {v : List Snd} (hw : wcheck v = 0) : deriveM [] v = (0, v) := by rw [derive_ok rfl hw]; rfl
theorem setL_self {α : Type} [DecidableEq α] {lt : α → α → Bool} (h : Strict lt) {l : List α} (hl : l.Pairwise (fun a b => lt a b = true)) : setL lt l = l :=
 strict_unique h _ _ (setL_sorted h l) hl fun a => setL_mem h l a
theorem before_none {w ss : List Snd} (hs : ∀ s ∈ ss, fvalid s.1 s.2 = true) : beforeM [] w ss = if w.length ≤ 6 ∧ ∀ s ∈ w, s ∈ ss then [w] else [] := by
 have hm : ∀ v, v ∈ beforeM [] w ss ↔ (w.length ≤ 6 ∧ ∀ s ∈ w, s ∈ ss) ∧ v = w := fun v => by
  rw [before_mem]
  constructor
  ·rintro ⟨⟨h1, h2⟩, h3⟩
   rw [derive_none (wcheck_alpha hs h2 (by omega))] at h3
   obtain rfl : v = w := (Prod.ext_iff.1 h3).2
   exact ⟨⟨h1, h2⟩, rfl⟩
  ·rintro ⟨⟨h1, h2⟩, rfl⟩
   exact ⟨⟨h1, h2⟩, derive_none (wcheck_alpha hs h2 (by omega))⟩
 by_cases h : w.length ≤ 6 ∧ ∀ s ∈ w, s ∈ ss
 ·rw [if_pos h]
  exact strict_unique sooner_strict _ _ (before_sooner _ _ _) (by simp) fun a => by rw [hm, List.mem_singleton]; exact ⟨fun e => e.2, fun e => ⟨h, e⟩⟩
 ·rw [if_neg h]
  apply List.eq_nil_iff_forall_not_mem.2
  intro v hv
  exact h ((hm v).1 hv).1
theorem outs_none {ss : List Snd} (hs : ∀ s ∈ ss, fvalid s.1 s.2 = true) {n : Nat} (hn : n ≤ 32) : outsM11 [] ss n = (wordsM (alphaM ss) n).map fun v => (v, v) := by
 have hd : ∀ v ∈ wordsM (alphaM ss) n, deriveM [] v = (0, v) := fun v hv => by
  obtain ⟨h1, h2⟩ := (words_mem _ n v).1 hv
  exact derive_none (wcheck_alpha hs (fun s hs' => (alpha_mem ss s).1 (h2 s hs')) (by omega))
 unfold outsM11
 rw [List.filter_eq_self.2 fun v hv => by rw [hd v hv]; rfl]
 exact List.map_congr_left fun v hv => by rw [hd v hv]
theorem image_none {ss : List Snd} (hs : ∀ s ∈ ss, fvalid s.1 s.2 = true) {n : Nat} (hn : n ≤ 32) : setL soonerM ((outsM11 [] ss n).map fun p => p.2) = wordsM (alphaM ss) n ∧ lostGo (outsM11 [] ss n) [] = [] := by
 have h1 : (outsM11 [] ss n).map (fun p => p.2) = wordsM (alphaM ss) n := by rw [outs_none hs hn, List.map_map]; exact List.map_id _
 have h2 := setL_self sooner_strict (words_sooner (alpha_sorted ss) n)
 refine ⟨by rw [h1, h2], List.eq_nil_of_length_eq_zero ?_⟩
 have h3 := image_lost (outsM11 [] ss n)
 rw [h1, h2, ← h1, List.length_map] at h3
 omega
def alpha5 : List Snd := [(2, 5), (3, 4), (4, 3), (5, 2), (7, 0)]
theorem alpha5_ok : ∀ n, n ≤ 5 → refusedM (alpha5.take n) = 0
 | 0, _ => by kernel_rfl
 | 1, _ => by kernel_rfl
 | 2, _ => by kernel_rfl
 | 3, _ => by kernel_rfl
 | 4, _ => by kernel_rfl
 | 5, _ => by kernel_rfl
 | n + 6, h => by omega
theorem alpha5_len {n : Nat} (h : n ≤ 5) : (alpha5.take n).length = n := by rw [List.length_take]; show min n 5 = n; omega
theorem alpha5_valid {n : Nat} (h : n ≤ 5) : ∀ s ∈ alpha5.take n, fvalid s.1 s.2 = true := (refused_none (alpha5_ok n h)).2.1
theorem alpha5_nodup {n : Nat} (h : n ≤ 5) : (alpha5.take n).Nodup := (refused_none (alpha5_ok n h)).2.2
def speltM (ss : List Snd) (l : List Nat) (most : Nat) : List Snd := if ss = [] then [] else (l.take most).map fun k => ss.getD (k % ss.length) (0, 0)
theorem spelt_len (ss : List Snd) (l : List Nat) (most : Nat) : (speltM ss l most).length ≤ most := by
 unfold speltM
 split
 ·exact Nat.zero_le _
 ·rw [List.length_map, List.length_take]; omega
theorem spelt_mem (ss : List Snd) (l : List Nat) (most : Nat) : ∀ s ∈ speltM ss l most, s ∈ ss := by
 unfold speltM
 split
 ·intro s hs; cases hs
 ·rename_i h
  intro s hs
  obtain ⟨k, _, rfl⟩ := List.mem_map.1 hs
  exact getD_mem (Nat.mod_lt _ (List.length_pos_iff.2 h))
theorem back_again {ls : List LawD} {ss v w : List Snd} (hv : ∀ s ∈ v, s ∈ ss) (h6 : v.length ≤ 6) (h : deriveM ls v = (0, w)) : v ∈ beforeM ls w ss := (before_mem ls w ss v).2 ⟨⟨h6, hv⟩, h⟩
theorem take_all {ls : List LawD} {w ss : List Snd} (h : refusedM ss = 0) : (beforeM ls w ss).take 100000 = beforeM ls w ss := by
 obtain ⟨h5, _, hn⟩ := refused_none h
 exact List.take_of_length_le (Nat.le_trans (before_short hn h5) (by omega))
theorem outs_mem (ls : List LawD) (ss : List Snd) (n : Nat) (p : List Snd × List Snd) : p ∈ outsM11 ls ss n ↔ (p.1.length = n ∧ ∀ s ∈ p.1, s ∈ ss) ∧ deriveM ls p.1 = (0, p.2) := by
 unfold outsM11
 rw [List.mem_map]
 constructor
 ·rintro ⟨v, hv, rfl⟩
  obtain ⟨h1, h2⟩ := List.mem_filter.1 hv
  obtain ⟨h3, h4⟩ := (words_mem _ n v).1 h1
  exact ⟨⟨h3, fun s hs => (alpha_mem ss s).1 (h4 s hs)⟩, Prod.ext (by simpa using h2) rfl⟩
 ·rintro ⟨⟨h1, h2⟩, h3⟩
  refine ⟨p.1, List.mem_filter.2 ⟨(words_mem _ n p.1).2 ⟨h1, fun s hs => (alpha_mem ss s).2 (h2 s hs)⟩, by simp [h3]⟩, by rw [h3]⟩
theorem outs_sooner (ls : List LawD) (ss : List Snd) (n : Nat) : ((outsM11 ls ss n).map fun p => p.1).Pairwise (fun a b => soonerM a b = true) := by
 unfold outsM11
 rw [List.map_map]
 show (((wordsM (alphaM ss) n).filter _).map id).Pairwise _
 rw [List.map_id]
 exact (words_sooner (alpha_sorted ss) n).filter _
theorem loses_total (ls : List LawD) {ss : List Snd} (hn : ss.Nodup) (n : Nat) : (setL soonerM ((outsM11 ls ss n).map fun p => p.2)).length + (lostGo (outsM11 ls ss n) []).length =
  ((List.range (ss.length ^ n)).filter fun i => decide ((deriveM ls (lsd ss n i)).1 = 0)).length := by
 rw [image_lost, lsd_count hn n (fun v => decide ((deriveM ls v).1 = 0))]
 unfold outsM11
 rw [List.length_map]
theorem lost_pair {ls : List LawD} {ss : List Snd} {n : Nat} {q : List Snd × List Snd} (hq : q ∈ lostGo (outsM11 ls ss n) []) :
  ∃ x, deriveM ls q.1 = (0, x) ∧ deriveM ls q.2 = (0, x) ∧ q.1.length = n ∧ q.2.length = n ∧ soonerM q.1 q.2 = true ∧ x ∈ setL soonerM ((outsM11 ls ss n).map fun p => p.2) := by
 obtain ⟨_, h⟩ := lost_mem (outsM11 ls ss n) [] (outs_sooner ls ss n) (fun p hp => by cases hp)
 obtain ⟨p, hp, x, hx, rfl, he, hs⟩ := h q hq
 rw [List.nil_append] at hp
 obtain ⟨⟨h1, _⟩, h2⟩ := (outs_mem ls ss n p).1 hp
 obtain ⟨⟨h3, _⟩, h4⟩ := (outs_mem ls ss n x).1 hx
 refine ⟨p.2, h2, by rw [he]; exact h4, h1, h3, hs, ?_⟩
 rw [setL_mem sooner_strict]
 exact List.mem_map.2 ⟨p, hp, rfl⟩
theorem lost_order (ls : List LawD) (ss : List Snd) (n : Nat) : ((lostGo (outsM11 ls ss n) []).map fun p => p.2).Pairwise (fun a b => soonerM a b = true) :=
 (lost_mem (outsM11 ls ss n) [] (outs_sooner ls ss n) (fun p hp => by cases hp)).1
theorem fixed_total {l : LawD} {ss : List Snd} (hl : lawsE [l] = 0) (hs : refusedM ss = 0) {n : Nat} (hn : n ≤ 32) :
  ((outsM11 [l] ss n).filter fun p => decide (p.1 = p.2)).length = ((List.range (ss.length ^ n)).filter fun i => decide (applyM l (lsd ss n i) = (0, lsd ss n i))).length := by
 obtain ⟨_, hv, hnd⟩ := refused_none hs
 rw [lsd_count hnd n (fun v => decide (applyM l v = (0, v)))]
 unfold outsM11
 rw [List.filter_map, List.length_map, List.filter_filter]
 congr 1
 apply List.filter_congr
 intro v hvm
 obtain ⟨h1, h2⟩ := (words_mem _ n v).1 hvm
 have hw : wcheck v = 0 := wcheck_alpha hv (fun s hs' => (alpha_mem ss s).1 (h2 s hs')) (by omega)
 show (decide (v = (deriveM [l] v).2) && decide ((deriveM [l] v).1 = 0)) = decide (applyM l v = (0, v))
 rw [derive_one hl hw]
 by_cases h : (applyM l v).1 = 0
 ·rw [if_neg (by simpa using h)]
  by_cases h3 : v = (applyM l v).2
  ·have : applyM l v = (0, v) := Prod.ext h h3.symm
   simp [← h3, this]
  ·have : ¬ applyM l v = (0, v) := fun e => h3 (by rw [e])
   simp [h3, this]
 ·rw [if_pos h]
  have : ¬ applyM l v = (0, v) := fun e => h (by rw [e])
  simp [this]
structure Grown (w w' : World) : Prop where
 b : Below w.heap.size w w'
 d : w.drawn ≤ w'.drawn
namespace Grown
variable {w w' w'' : World}
theorem refl (w : World) : Grown w w := ⟨Below.refl _ _, rr⟩
theorem trans (h : Grown w w') (k : Grown w' w'') : Grown w w'' := ⟨h.b.trans (k.b.mono h.b.size), Nat.le_trans h.d k.d⟩
theorem alloc (h : Grown w w') (o : Obj) : Grown w (w'.alloc o) := ⟨h.b.alloc h.b.size _, h.d⟩
theorem drew (h : Grown w w') : Grown w w'.drew := ⟨h.b.drew, Nat.le_succ_of_le h.d⟩
theorem eq (h : Grown w w') : ∃ q os, w' = Sort.grow (w.drewN q) os := by
 refine ⟨w'.drawn - w.drawn, w'.heap.extract w.heap.size w'.heap.size, ?_⟩
 obtain ⟨⟨h1, h2, h3, h4, h5⟩, h6⟩ := h
 have hh : w'.heap = w.heap ++ w'.heap.extract w.heap.size w'.heap.size := by
  apply Array.ext_getElem?
  intro i
  rcases Nat.lt_or_ge i w.heap.size with h | h
  ·rw [h5 i h, Array.getElem?_append_left h]
  ·rw [Array.getElem?_append_right h, Array.getElem?_extract]
   rcases Nat.lt_or_ge i w'.heap.size with h' | h'
   ·rw [if_pos (by omega), show w.heap.size + (i - w.heap.size) = i by omega]
   ·rw [if_neg (by omega), Array.getElem?_eq_none h']
 unfold Sort.grow World.drewN
 obtain ⟨heap', tape', drawn', os', output'⟩ := w'
 obtain ⟨heap, tape, drawn, os, output⟩ := w
 simp only at *
 subst h1 h2 h3
 rw [← hh]
 congr 1
 omega
end Grown
def cmpI (x y : Int) : Int := if x < y then -1 else if y < x then 1 else 0
theorem isNaN_c (x : Int) (w : World) : Calls Tryz.prog 234 #[.int .u32 x] w fun e w' => e = .returned (.bool false) ∧ w' = w := by
 go_enter Tryz.func234, Tryz.ntmps234
 go_wp2
 go_ret
 simp
theorem cmpU_c (x y : Int) (w : World) : Calls Tryz.prog 203 #[.int .u32 x, .int .u32 y] w fun e w' => e = .returned (.int .i64 (cmpI x y)) ∧ w' = w := by
 go_enter Tryz.func203, Tryz.ntmps203
 by_cases h1 : x < y
 ·have h2 : cmpI x y = -1 := by unfold cmpI; rw [if_pos h1]
  rw [h2]
  go_wp2_with (go_at_call 234; refine (isNaN_c _ _).mono ?_; rintro e w1 ⟨rfl, rfl⟩)
  go_ret
  exact ⟨rfl, rfl⟩
 ·by_cases h2 : y < x
  ·have h3 : cmpI x y = 1 := by unfold cmpI; rw [if_neg h1, if_pos h2]
   rw [h3]
   go_wp2_with (go_at_call 234; refine (isNaN_c _ _).mono ?_; rintro e w1 ⟨rfl, rfl⟩)
   go_ret
   exact ⟨rfl, rfl⟩
  ·have h3 : cmpI x y = 0 := by unfold cmpI; rw [if_neg h1, if_neg h2]
   rw [h3]
   go_wp2_with (go_at_call 234; refine (isNaN_c _ _).mono ?_; rintro e w1 ⟨rfl, rfl⟩)
   go_ret
   exact ⟨rfl, rfl⟩
def orI (x y : Int) : Int := if x ≠ 0 then x else y
theorem or2_c (x y : Int) (b : Nat) (w : World) (h0 : w.cell? ⟨b, 0, none⟩ = some (.int .i64 x)) (h1 : w.cell? ⟨b, 1, none⟩ = some (.int .i64 y)) :
  Calls Tryz.prog 116 #[.slice (some ⟨b, 0, none⟩) 2 2] w fun e w' => e = .returned (.int .i64 (orI x y)) ∧ w' = w := by
 go_enter Tryz.func116, Tryz.ntmps116
 go_wp2
 go_loopw [5, 8] (fun _ i wr => ∃ k : Nat, k ≤ 2 ∧ i = .int .i64 k ∧ (0 < k → x = 0) ∧ (1 < k → y = 0) ∧ wr = w) (fun _ i _ => 2 - (intOf i).toNat)
 case atStart => exact ⟨0, by omega, rfl, by omega, by omega, rfl⟩
 case round =>
  obtain ⟨k, hk, rfl, hx, hy, rfl⟩ := hrel
  have hk3 : k = 0 ∨ k = 1 ∨ k = 2 := by omega
  rcases hk3 with rfl | rfl | rfl
  ·by_cases h : x = 0
   ·subst h
    go_wp2
    go_roundw
    case rel => exact ⟨1, by omega, rfl, by simp, by simp, by simp⟩
    case measure => simp [intOf]
   ·have hb : (x != 0) = true := by simpa using h
    go_wp2
    go_ret
    exact ⟨by unfold orI; rw [if_pos h]; rfl, rfl⟩
  ·have hx0 := hx (by omega)
   subst hx0
   by_cases h : y = 0
   ·subst h
    go_wp2
    go_roundw
    case rel => exact ⟨2, by omega, rfl, by simp, by simp, by simp⟩
    case measure => simp [intOf]
   ·have hb : (y != 0) = true := by simpa using h
    go_wp2
    go_ret
    exact ⟨by unfold orI; rw [if_neg (by simp)]; rfl, rfl⟩
  ·have hx0 := hx (by omega)
   have hy0 := hy (by omega)
   subst hx0 hy0
   go_wp2
   go_ret
   exact ⟨rfl, rfl⟩
def ordI (a b : Snd) : Int := orI (cmpI a.1 b.1) (cmpI a.2 b.2)
theorem fOrder_c (p m p' m' : Int) (w : World) : Calls Tryz.prog 192 #[sndV p m, sndV p' m'] w fun e w' => e = .returned (.int .i64 (ordI (p, m) (p', m'))) ∧ Grown w w' := by
 go_enter Tryz.func192, Tryz.ntmps192
 go_wp2_with fail
 obtain ⟨W, hW⟩ : ∃ W, W = (w.alloc (.cells #[.int .u32 p, .int .u32 m] 24)).alloc (.cells #[.int .u32 p', .int .u32 m'] 24) := ⟨_, rfl⟩
 have hG : Grown w W := by rw [hW]; exact ((Grown.refl w).alloc _).alloc _
 have k0 : W.heap[w.heap.size]? = some (.cells #[.int .u32 p, .int .u32 m] 24 (0, 0)) := by rw [hW]; exact hpt
 have k1 : W.heap[w.heap.size + 1]? = some (.cells #[.int .u32 p', .int .u32 m'] 24 (0, 0)) := by rw [hW]; exact hpt
 rw [← hW]
 clear hW
 have hS : W.drew.cell? ⟨w.heap.size, 0, none⟩ = some (.int .u32 p) ∧ W.drew.cell? ⟨w.heap.size, 1, none⟩ = some (.int .u32 m) ∧ W.drew.cell? ⟨w.heap.size + 1, 0, none⟩ = some (.int .u32 p') ∧ W.drew.cell? ⟨w.heap.size + 1, 1, none⟩ = some (.int .u32 m') :=
  ⟨cell_at_heap k0 rfl, cell_at_heap k0 rfl, cell_at_heap k1 rfl, cell_at_heap k1 rfl⟩
 have hS' : w.heap.size < W.heap.size ∧ w.heap.size + 1 < W.heap.size := ⟨lt_of_block k0, lt_of_block k1⟩
 generalize w.heap.size = b0 at *
 refine plain_region (fun W' => W'.cell? ⟨b0, 0, none⟩ = some (.int .u32 p) ∧ W'.cell? ⟨b0, 1, none⟩ = some (.int .u32 m) ∧ W'.cell? ⟨b0 + 1, 0, none⟩ = some (.int .u32 p') ∧ W'.cell? ⟨b0 + 1, 1, none⟩ = some (.int .u32 m')) (by kernel_rfl) hS (fun hHeld => ?_)
 (refine' anyT_tk 0 rfl ?_; (try simp only [Act.put, nY, nX])); (refine' anyT_tk 1 rfl ?_; (try simp only [Act.put, nY, nX])); (refine' anyT_tk 2 rfl ?_; (try simp only [Act.put, nY, nX])); (refine' anyT_tk 3 rfl ?_; (try simp only [Act.put, nY, nX])); (refine' anyT_tk 5 rfl ?_; (try simp only [Act.put, nY, nX])); (refine' anyT_tk 6 rfl ?_; (try simp only [Act.put, nY, nX])); (refine' anyT_tk 7 rfl ?_; (try simp only [Act.put, nY, nX])); (refine' anyT_tk 8 rfl ?_; (try simp only [Act.put, nY, nX]))
 (refine anyT_sp 4 rfl (fun K' hK' => ?_); simp only [nY]; go_simp)
 refine (cmpU_c p p' W.drew).mono ?_
 rintro e w1 ⟨rfl, rfl⟩
 refine hK' _ _ ⟨.inr hS, fun _ => ?_⟩
 clear hK' K'
 (try simp only [Act.put, nY, nX])
 (refine anyT_sp 9 rfl (fun K' hK' => ?_); simp only [nY]; go_simp)
 refine (cmpU_c m m' W.drew).mono ?_
 rintro e w1 ⟨rfl, rfl⟩
 refine hK' _ _ ⟨.inr hS, fun _ => ?_⟩
 clear hK' K'
 (try simp only [Act.put, nY, nX])
 (refine anyT_sp 10 rfl (fun K' hK' => ?_); simp only [nY]; go_simp)
 refine hK' _ _ ⟨.inr ⟨(cell_new_block (by simpa using hS'.1)).trans hS.1, (cell_new_block (by simpa using hS'.1)).trans hS.2.1, (cell_new_block (by simpa using hS'.2)).trans hS.2.2.1, (cell_new_block (by simpa using hS'.2)).trans hS.2.2.2⟩, fun _ => ?_⟩
 clear hK' K'
 (try simp only [Act.put, nY, nX])
 (refine anyT_sp 11 rfl (fun K' hK' => ?_); simp only [nY]; go_simp)
 refine (or2_c (cmpI p p') (cmpI m m') W.heap.size (W.drew.alloc (.cells #[.int .i64 (cmpI p p'), .int .i64 (cmpI m m')] 3)) (cell_new_at (w := W.drew) rfl) (cell_new_at (w := W.drew) rfl)).mono ?_
 rintro e w1 ⟨rfl, rfl⟩
 refine hK' _ _ ⟨.inr ⟨(cell_new_block (by simpa using hS'.1)).trans hS.1, (cell_new_block (by simpa using hS'.1)).trans hS.2.1, (cell_new_block (by simpa using hS'.2)).trans hS.2.2.1, (cell_new_block (by simpa using hS'.2)).trans hS.2.2.2⟩, fun _ => ?_⟩
 clear hK' K'
 (try simp only [Act.put, nY, nX])
 (refine anyT_sp 12 rfl (fun K' hK' => ?_); simp only [nY]; go_simp)
 refine hK' _ _ ⟨.inl (by kernel_rfl), fun _ => anyT_done (by kernel_rfl) ?_ _⟩
 clear hK' K'
 go_wp2
 go_ret
 exact ⟨rfl, (hG.drew).alloc _⟩
theorem isNaNi_c (x : Int) (w : World) : Calls Tryz.prog 164 #[.int .i64 x] w fun e w' => e = .returned (.bool false) ∧ w' = w := by
 go_enter Tryz.func164, Tryz.ntmps164
 go_wp2
 go_ret
 simp
theorem cmpN_c (x y : Int) (w : World) : Calls Tryz.prog 117 #[.int .i64 x, .int .i64 y] w fun e w' => e = .returned (.int .i64 (cmpI x y)) ∧ w' = w := by
 go_enter Tryz.func117, Tryz.ntmps117
 by_cases h1 : x < y
 ·have h2 : cmpI x y = -1 := by unfold cmpI; rw [if_pos h1]
  rw [h2]
  go_wp2_with (go_at_call 164; refine (isNaNi_c _ _).mono ?_; rintro e w1 ⟨rfl, rfl⟩)
  go_ret
  exact ⟨rfl, rfl⟩
 ·by_cases h2 : y < x
  ·have h3 : cmpI x y = 1 := by unfold cmpI; rw [if_neg h1, if_pos h2]
   rw [h3]
   go_wp2_with (go_at_call 164; refine (isNaNi_c _ _).mono ?_; rintro e w1 ⟨rfl, rfl⟩)
   go_ret
   exact ⟨rfl, rfl⟩
  ·have h3 : cmpI x y = 0 := by unfold cmpI; rw [if_neg h1, if_neg h2]
   rw [h3]
   go_wp2_with (go_at_call 164; refine (isNaNi_c _ _).mono ?_; rintro e w1 ⟨rfl, rfl⟩)
   go_ret
   exact ⟨rfl, rfl⟩
theorem wOrd1_c (p m p' m' : Int) (w : World) : Calls Tryz.prog 166 #[sndV p m, sndV p' m'] w fun e w' => e = .returned (.int .i64 (ordI (p, m) (p', m'))) ∧ Grown w w' := by
 go_enter Tryz.func166, Tryz.ntmps166
 go_wp2_with fail
 obtain ⟨W, hW⟩ : ∃ W, W = (w.alloc (.cells #[.int .u32 p, .int .u32 m] 24)).alloc (.cells #[.int .u32 p', .int .u32 m'] 24) := ⟨_, rfl⟩
 have hG : Grown w W := by rw [hW]; exact ((Grown.refl w).alloc _).alloc _
 have k0 : W.heap[w.heap.size]? = some (.cells #[.int .u32 p, .int .u32 m] 24 (0, 0)) := by rw [hW]; exact hpt
 have k1 : W.heap[w.heap.size + 1]? = some (.cells #[.int .u32 p', .int .u32 m'] 24 (0, 0)) := by rw [hW]; exact hpt
 rw [← hW]
 clear hW
 have hS : W.drew.cell? ⟨w.heap.size, 0, none⟩ = some (.int .u32 p) ∧ W.drew.cell? ⟨w.heap.size, 1, none⟩ = some (.int .u32 m) ∧ W.drew.cell? ⟨w.heap.size + 1, 0, none⟩ = some (.int .u32 p') ∧ W.drew.cell? ⟨w.heap.size + 1, 1, none⟩ = some (.int .u32 m') :=
  ⟨cell_at_heap k0 rfl, cell_at_heap k0 rfl, cell_at_heap k1 rfl, cell_at_heap k1 rfl⟩
 have hS' : w.heap.size < W.heap.size ∧ w.heap.size + 1 < W.heap.size := ⟨lt_of_block k0, lt_of_block k1⟩
 generalize w.heap.size = b0 at *
 refine plain_region (fun W' => W'.cell? ⟨b0, 0, none⟩ = some (.int .u32 p) ∧ W'.cell? ⟨b0, 1, none⟩ = some (.int .u32 m) ∧ W'.cell? ⟨b0 + 1, 0, none⟩ = some (.int .u32 p') ∧ W'.cell? ⟨b0 + 1, 1, none⟩ = some (.int .u32 m')) (by kernel_rfl) hS (fun hHeld => ?_)
 (refine' anyT_tk 0 rfl ?_; (try simp only [Act.put, nY, nX])); (refine' anyT_tk 1 rfl ?_; (try simp only [Act.put, nY, nX])); (refine' anyT_tk 2 rfl ?_; (try simp only [Act.put, nY, nX])); (refine' anyT_tk 3 rfl ?_; (try simp only [Act.put, nY, nX])); (refine' anyT_tk 5 rfl ?_; (try simp only [Act.put, nY, nX])); (refine' anyT_tk 6 rfl ?_; (try simp only [Act.put, nY, nX])); (refine' anyT_tk 7 rfl ?_; (try simp only [Act.put, nY, nX])); (refine' anyT_tk 8 rfl ?_; (try simp only [Act.put, nY, nX]))
 (refine anyT_sp 4 rfl (fun K' hK' => ?_); simp only [nY]; go_simp)
 refine (cmpU_c p p' W.drew).mono ?_
 rintro e w1 ⟨rfl, rfl⟩
 refine hK' _ _ ⟨.inr hS, fun _ => ?_⟩
 clear hK' K'
 (try simp only [Act.put, nY, nX])
 (refine anyT_sp 9 rfl (fun K' hK' => ?_); simp only [nY]; go_simp)
 refine (cmpU_c m m' W.drew).mono ?_
 rintro e w1 ⟨rfl, rfl⟩
 refine hK' _ _ ⟨.inr hS, fun _ => ?_⟩
 clear hK' K'
 (try simp only [Act.put, nY, nX])
 (refine anyT_sp 10 rfl (fun K' hK' => ?_); simp only [nY]; go_simp)
 refine hK' _ _ ⟨.inr ⟨(cell_new_block (by simpa using hS'.1)).trans hS.1, (cell_new_block (by simpa using hS'.1)).trans hS.2.1, (cell_new_block (by simpa using hS'.2)).trans hS.2.2.1, (cell_new_block (by simpa using hS'.2)).trans hS.2.2.2⟩, fun _ => ?_⟩
 clear hK' K'
 (try simp only [Act.put, nY, nX])
 (refine anyT_sp 11 rfl (fun K' hK' => ?_); simp only [nY]; go_simp)
 refine (or2_c (cmpI p p') (cmpI m m') W.heap.size (W.drew.alloc (.cells #[.int .i64 (cmpI p p'), .int .i64 (cmpI m m')] 3)) (cell_new_at (w := W.drew) rfl) (cell_new_at (w := W.drew) rfl)).mono ?_
 rintro e w1 ⟨rfl, rfl⟩
 refine hK' _ _ ⟨.inr ⟨(cell_new_block (by simpa using hS'.1)).trans hS.1, (cell_new_block (by simpa using hS'.1)).trans hS.2.1, (cell_new_block (by simpa using hS'.2)).trans hS.2.2.1, (cell_new_block (by simpa using hS'.2)).trans hS.2.2.2⟩, fun _ => ?_⟩
 clear hK' K'
 (try simp only [Act.put, nY, nX])
 (refine anyT_sp 12 rfl (fun K' hK' => ?_); simp only [nY]; go_simp)
 refine hK' _ _ ⟨.inl (by kernel_rfl), fun _ => anyT_done (by kernel_rfl) ?_ _⟩
 clear hK' K'
 go_wp2
 go_ret
 exact ⟨rfl, (hG.drew).alloc _⟩
def ordW : List Snd → List Snd → Int
 | [], [] => 0
 | [], _ :: _ => -1
 | _ :: _, [] => 1
 | x :: a, y :: b => if ordI x y ≠ 0 then ordI x y else ordW a b
theorem drop_at {α : Type} {l : List α} {j : Nat} {x : α} (h : l[j]? = some x) : l.drop j = x :: l.drop (j + 1) := by
 obtain ⟨hj, rfl⟩ := List.getElem?_eq_some_iff.1 h
 exact List.drop_eq_getElem_cons hj
theorem cmpF_c (A : Option Addr) (n c : Nat) (xs : List Snd) (A' : Option Addr) (n' c' : Nat) (ys : List Snd) (w : World) (hx : IsWord w A n c xs) (hy : IsWord w A' n' c' ys) :
  Calls Tryz.prog 165 #[.slice A n c, .slice A' n' c', .func (.func 166) #[] #[]] w fun e w' => e = .returned (.int .i64 (ordW xs ys)) ∧ Grown w w' := by
 have HLX : Hid (xs.length = n) := hx.len
 have HLY : Hid (ys.length = n') := hy.len
 have HX := hI hx; have HY := hI hy
 have hmx := hx.max
 have hmy := hy.max
 clear hx hy
 go_enter Tryz.func165, Tryz.ntmps165
 go_wp2
 go_loopw [13] (fun vi wr => ∃ j : Nat, vi = .int .i64 j ∧ j ≤ n ∧ j ≤ n' ∧ Hid (ordW xs ys = ordW (xs.drop j) (ys.drop j)) ∧ Hid (Grown w wr)) (fun vi _ => n - (intOf vi).toNat)
 case atStart => exact ⟨0, rfl, Nat.zero_le _, Nat.zero_le _, rfl, Grown.refl _⟩
 case round =>
  obtain ⟨j, rfl, hj, hj', HO, HG⟩ := hrel
  by_cases hlt : (j : Int) < (n : Int)
  ·have hjn : j < n := by omega
   obtain ⟨b, off, p, m, rfl, hbl, hs, hcp, hcm⟩ := (HX.out.below HG.out.b rr).at_ hjn
   have HS := hI hs; clear hs
   by_cases hge : (n' : Int) ≤ (j : Int)
   ·go_wp2
    go_ret
    have HV : Hid (ordW xs ys = 1) := by
     show _ = _
     rw [HO.out, drop_at HS.out, List.drop_of_length_le (l := ys) (by rw [HLY.out]; omega)]; rfl
    exact ⟨by rw [HV.out]; rfl, HG.out.alloc _⟩
   ·have hjn' : j < n' := by omega
    have HG2 : Hid (Grown w (wr.alloc (.cells #[.int .u32 p, .int .u32 m] 24))) := HG.out.alloc _
    obtain ⟨b', off', p', m', rfl, hbl', hs', hcp', hcm'⟩ := (HY.out.below HG2.out.b rr).at_ hjn'
    have HS' := hI hs'; clear hs'
    go_wp2_with fail
    refine (wOrd1_c p m p' m' _).mono ?_
    rintro e w2 ⟨rfl, hg2⟩
    have HG3 : Hid (Grown w w2) := (HG2.out.alloc _).trans hg2
    clear hg2 hcp hcm hcp' hcm' hbl hbl'
    obtain ⟨q, hq⟩ : ∃ q, q = ordI (p, m) (p', m') := ⟨_, rfl⟩
    rw [← hq]
    have HST : Hid (ordW xs ys = if q ≠ 0 then q else ordW (xs.drop (j + 1)) (ys.drop (j + 1))) := by
     show _ = _
     rw [HO.out, drop_at HS.out, drop_at HS'.out, hq]; rfl
    clear hq
    by_cases hq0 : q = 0
    ·subst hq0
     have HO2 : Hid (ordW xs ys = ordW (xs.drop (j + 1)) (ys.drop (j + 1))) := by
      show _ = _
      rw [HST.out]; rfl
     clear HST
     go_wp2
     go_roundw
     case rel => first | exact ⟨j + 1, by go_num, by omega, by omega, HO2, HG3⟩ | ((repeat apply Exists.intro); exact ⟨⟨j + 1, by go_num, by omega, by omega, HO2, HG3⟩, rfl⟩)
     case measure => simp [intOf]; omega
    ·have hq1 : (q != 0) = true := by simpa using hq0
     have HV : Hid (ordW xs ys = q) := by show _ = _; rw [HST.out, if_pos hq0]
     clear hq0 HST
     go_wp2
     go_ret
     exact ⟨by rw [HV.out]; rfl, HG3.out⟩
  ·have hjn : j = n := by omega
   by_cases hnn : (n : Int) < (n' : Int)
   ·have HV : Hid (ordW xs ys = -1) := by
     show _ = _
     obtain ⟨y, hy⟩ : ∃ y, ys[j]? = some y := ⟨ys[j]'(by rw [HLY.out]; omega), List.getElem?_eq_getElem _⟩
     rw [HO.out, drop_at hy, List.drop_of_length_le (l := xs) (by rw [HLX.out]; omega)]; rfl
    go_wp2
    go_ret
    exact ⟨by rw [HV.out]; rfl, HG.out⟩
   ·have HV : Hid (ordW xs ys = 0) := by
     show _ = _
     rw [HO.out, List.drop_of_length_le (l := xs) (by rw [HLX.out]; omega), List.drop_of_length_le (l := ys) (by rw [HLY.out]; omega)]; rfl
    go_wp2
    go_ret
    exact ⟨by rw [HV.out]; rfl, HG.out⟩
theorem wOrd_c (A : Option Addr) (n c : Nat) (xs : List Snd) (A' : Option Addr) (n' c' : Nat) (ys : List Snd) (w : World) (hx : IsWord w A n c xs) (hy : IsWord w A' n' c' ys) :
  Calls Tryz.prog 118 #[.slice A n c, .slice A' n' c'] w fun e w' => e = .returned (.int .i64 (ordW xs ys)) ∧ Grown w w' := by
 have HX := hI hx; have HY := hI hy
 clear hx hy
 go_enter Tryz.func118, Tryz.ntmps118
 go_wp2_with fail
 refine (cmpF_c A n c xs A' n' c' ys w HX.out HY.out).mono ?_
 rintro e w1 ⟨rfl, hg⟩
 go_wp2
 go_ret
 exact ⟨rfl, hg⟩
def soonI (xs ys : List Snd) : Int := orI (cmpI xs.length ys.length) (ordW xs ys)
theorem image2_c (A : Option Addr) (n c : Nat) (xs : List Snd) (A' : Option Addr) (n' c' : Nat) (ys : List Snd) (w : World) (hx : IsWord w A n c xs) (hy : IsWord w A' n' c' ys) :
  Calls Tryz.prog 115 #[.slice A n c, .slice A' n' c'] w fun e w' => e = .returned (.int .i64 (soonI xs ys)) ∧ Grown w w' := by
 have hm : cmpI (n : Int) (n' : Int) = cmpI xs.length ys.length := by rw [hx.len, hy.len]
 have hmx := hx.max
 have hmy := hy.max
 have HX := hI hx; have HY := hI hy
 clear hx hy
 go_enter Tryz.func115, Tryz.ntmps115
 go_wp2_with fail
 refine (cmpN_c n n' w).mono ?_
 rintro e w1 ⟨rfl, rfl⟩
 rw [hm]
 have HM := hI hm; clear hm
 go_wp2_with fail
 refine (wOrd_c A n c xs A' n' c' ys w1 HX.out HY.out).mono ?_
 rintro e w2 ⟨rfl, hg⟩
 have HG := hI hg; clear hg
 go_wp2_with fail
 refine (or2_c _ _ w2.heap.size _ (cell_new_at rfl) (cell_new_at rfl)).mono ?_
 rintro e w3 ⟨rfl, rfl⟩
 go_wp2
 go_ret
 exact ⟨rfl, HG.out.alloc _⟩
theorem image3_c (A : Option Addr) (n c : Nat) (xs : List Snd) (A' : Option Addr) (n' c' : Nat) (ys : List Snd) (w : World) (h : Calls Tryz.prog 22 #[.slice A n c, .slice A' n' c'] w fun e w' => e = .returned (.bool (decide (xs = ys))) ∧ Below w.heap.size w w') :
  Calls Tryz.prog 120 #[.slice A n c, .slice A' n' c'] w fun e w' => e = .returned (.bool (decide (xs = ys))) ∧ Below w.heap.size w w' := by
 go_enter Tryz.func120, Tryz.ntmps120
 go_wp2_with fail
 refine h.mono ?_
 rintro e w1 ⟨rfl, hb⟩
 go_wp2
 go_ret
 exact ⟨rfl, hb⟩
end Go.Proofs.YtlgliddhideflaaGreatDoor

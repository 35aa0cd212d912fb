/-
  Strict orders, in plain words (the same as in text InvS: never import both).
  Waves in their order (chapter 38), in plain words: those before which none comes, one, two and so on, are all in order.
  Shortest ways (chapters 36 and 38), in plain words: what a distance is; ways over more and more points (the document's); the nearest open point first (the program's).
  When a wave arrives (chapter 38), in plain words: the program's test for numbers too large and the document's are the same.
  Maps of places (chapter 36), in plain words: roads, the roads at each point, what is refused.
  What points.New refuses, in plain words.
  A number or -1 where there is none.
  Sorting a rising list by another order that does not tell all elements apart: the sort keeps equal ones as they stand (slices.SortStableFunc over few elements), in plain words.
  Waves (chapter 38), in plain words: what is refused, when waves arrive, lines, forms, where one wave comes before another.
  The examples of chapter 38, in plain words.
  Waves (chapter 38), in plain words: how long ways are, lines that grow, lists of points gone over.
  Waves (chapter 38), in plain words: what the statements of the program alone ask of arrivals, of lists of points, and of lines.
  WaveKnown, in plain words: a long road of 128 points.
-/
import Derived.Sort.LotA
import Derived.Test.YtaglfmlgbcmakaaGreatDoorG14
import Derived.Test.YtaglfmlgbcmakaaGreatDoorG34
set_option linter.all false
set_option maxRecDepth 100000
set_option maxHeartbeats 4000000
namespace Go.Proofs.YtaglfmlgbcmakaaGreatDoor
open Go.RowKit
section
variable {α : Type}
structure Strict (lt : α → α → Bool) : Prop where
 irr : ∀ a, lt a a = false
 tr : ∀ a b c, lt a b = true → lt b c = true → lt a c = true
 tot : ∀ a b, lt a b = false → lt b a = false → a = b
theorem strict_unique {lt : α → α → Bool} (h : Strict lt) : ∀ xs ys : List α, xs.Pairwise (fun a b => lt a b = true) → ys.Pairwise (fun a b => lt a b = true) → (∀ a, a ∈ xs ↔ a ∈ ys) → xs = ys
 | [], [], _, _, _ => rfl
 | [], y :: ys, _, _, hm => by have := (hm y).2 List.mem_cons_self; cases this
 | x :: xs, [], _, _, hm => by have := (hm x).1 List.mem_cons_self; cases this
 | x :: xs, y :: ys, hx, hy, hm => by
  rw [List.pairwise_cons] at hx hy
  have hxy : x = y := by
   rcases List.mem_cons.1 ((hm x).1 List.mem_cons_self) with e | e
   ·exact e
   ·rcases List.mem_cons.1 ((hm y).2 List.mem_cons_self) with e' | e'
    ·exact e'.symm
    ·have h1 := hy.1 x e
     have h2 := hx.1 y e'
     have h3 := h.tr _ _ _ h1 h2
     rw [h.irr] at h3; cases h3
  subst hxy
  congr 1
  refine strict_unique h xs ys hx.2 hy.2 fun a => ⟨fun ha => ?_, fun ha => ?_⟩
  ·rcases List.mem_cons.1 ((hm a).1 (List.mem_cons_of_mem _ ha)) with e | e
   ·subst e; have := hx.1 a ha; rw [h.irr] at this; cases this
   ·exact e
  ·rcases List.mem_cons.1 ((hm a).2 (List.mem_cons_of_mem _ ha)) with e | e
   ·subst e; have := hy.1 a ha; rw [h.irr] at this; cases this
   ·exact e
end
section
variable {lt : Nat → Nat → Bool}
def aheadN (lt : Nat → Nat → Bool) (m i : Nat) : Nat := ((List.range m).filter fun k => lt k i).length
theorem filter_le {α : Type} {p q : α → Bool} (h : ∀ a, p a = true → q a = true) : ∀ l : List α, (l.filter p).length ≤ (l.filter q).length
 | [] => rr
 | x :: l => by
  have ih := filter_le h l
  rw [List.filter_cons, List.filter_cons]
  by_cases hp : p x = true
  ·rw [if_pos hp, if_pos (h x hp)]; simp; exact ih
  ·rw [if_neg hp]
   split
   ·simp; omega
   ·exact ih
theorem filter_lt {α : Type} {p q : α → Bool} (h : ∀ a, p a = true → q a = true) {y : α} (hp : p y = false) (hq : q y = true) : ∀ l : List α, y ∈ l → (l.filter p).length < (l.filter q).length
 | [], hy => by cases hy
 | x :: l, hy => by
  rw [List.filter_cons, List.filter_cons]
  rcases List.mem_cons.1 hy with e | hy
  ·subst e
   rw [if_neg (by simp [hp]), if_pos hq]
   have := filter_le h l
   simp; omega
  ·have ih := filter_lt h hp hq l hy
   by_cases hpx : p x = true
   ·rw [if_pos hpx, if_pos (h x hpx)]; simp; exact ih
   ·rw [if_neg hpx]
    split
    ·simp; omega
    ·exact ih
theorem ahead_lt (h : Strict lt) {m i j : Nat} (hi : i < m) (hij : lt i j = true) : aheadN lt m i < aheadN lt m j :=
 filter_lt (p := fun k => lt k i) (q := fun k => lt k j) (fun k hk => h.tr k i j hk hij) (h.irr i) hij _ (List.mem_range.2 hi)
theorem ahead_bound (h : Strict lt) {m i : Nat} (hi : i < m) : aheadN lt m i < m := by
 have := filter_lt (p := fun k => lt k i) (q := fun _ => true) (fun _ _ => rfl) (h.irr i) rfl (List.range m) (List.mem_range.2 hi)
 rw [List.filter_eq_self.2 (fun _ _ => rfl), List.length_range] at this
 exact this
def byRank (lt : Nat → Nat → Bool) (p : Nat → Bool) (m : Nat) : List Nat := (List.range m).flatMap fun n => (List.range m).filter fun i => decide (aheadN lt m i = n) && p i
theorem byRank_mem (h : Strict lt) (p : Nat → Bool) (m i : Nat) : i ∈ byRank lt p m ↔ i < m ∧ p i = true := by
 unfold byRank
 rw [List.mem_flatMap]
 constructor
 ·rintro ⟨n, _, hi⟩
  obtain ⟨h1, h2⟩ := List.mem_filter.1 hi
  rw [Bool.and_eq_true] at h2
  exact ⟨List.mem_range.1 h1, h2.2⟩
 ·rintro ⟨h1, h2⟩
  exact ⟨aheadN lt m i, List.mem_range.2 (ahead_bound h h1), List.mem_filter.2 ⟨List.mem_range.2 h1, by simp [h2]⟩⟩
theorem byRank_sorted (h : Strict lt) (p : Nat → Bool) (m : Nat) : (byRank lt p m).Pairwise (fun a b => lt a b = true) := by
 have key : ∀ ns : List Nat, ns.Pairwise (fun a b => a < b) → (ns.flatMap fun n => (List.range m).filter fun i => decide (aheadN lt m i = n) && p i).Pairwise (fun a b => lt a b = true) := by
  intro ns
  induction ns with
  | nil => intro _; simp
  | cons n ns ih =>
   intro hn
   rw [List.pairwise_cons] at hn
   rw [List.flatMap_cons, List.pairwise_append]
   have hm : ∀ k i, i ∈ (List.range m).filter (fun i => decide (aheadN lt m i = k) && p i) → i < m ∧ aheadN lt m i = k := fun k i hi => by
    obtain ⟨h1, h2⟩ := List.mem_filter.1 hi
    rw [Bool.and_eq_true] at h2
    exact ⟨List.mem_range.1 h1, by simpa using h2.1⟩
   refine ⟨?_, ih hn.2, fun a ha b hb => ?_⟩
   ·refine ((List.pairwise_lt_range (n := m)).filter _).imp_of_mem fun {a b} ha hb hab => ?_
    obtain ⟨h1, h2⟩ := hm n a ha
    obtain ⟨h3, h4⟩ := hm n b hb
    cases hx : lt a b with
    | true => rfl
    | false =>
     cases hy : lt b a with
     | true => have := ahead_lt h h3 hy; omega
     | false => have := h.tot a b hx hy; omega
   ·obtain ⟨k, hk, hb⟩ := List.mem_flatMap.1 hb
    obtain ⟨h1, h2⟩ := hm n a ha
    obtain ⟨h3, h4⟩ := hm k b hb
    have hnk := hn.1 k hk
    cases hx : lt a b with
    | true => rfl
    | false =>
     cases hy : lt b a with
     | true => have := ahead_lt h h3 hy; omega
     | false => have := h.tot a b hx hy; subst this; omega
 exact key _ List.pairwise_lt_range
theorem byRank_unique (h : Strict lt) (p : Nat → Bool) (m : Nat) {s : List Nat} (hs : s.Pairwise (fun a b => lt a b = true)) (hm : ∀ i, i ∈ s ↔ i < m ∧ p i = true) : s = byRank lt p m :=
 strict_unique h _ _ hs (byRank_sorted h p m) fun i => by rw [hm, byRank_mem h]
end
def waveLt (t : Nat → Option Nat) (i j : Nat) : Bool := match t i, t j with
 | some x, some y => decide (x < y) || (decide (x = y) && decide (i < j))
 | some _, none => true
 | none, some _ => false
 | none, none => decide (i < j)
theorem wave_strict (t : Nat → Option Nat) : Strict (waveLt t) where
 irr := fun a => by unfold waveLt; cases t a <;> simp
 tr := fun a b c h1 h2 => by
  unfold waveLt at *
  cases ha : t a <;> cases hb : t b <;> cases hc : t c <;> rw [ha, hb] at h1 <;> rw [hb, hc] at h2 <;> simp at h1 h2 ⊢ <;> omega
 tot := fun a b h1 h2 => by
  unfold waveLt at *
  cases ha : t a <;> cases hb : t b <;> rw [ha, hb] at h1 h2 <;> simp at h1 h2 <;> omega
inductive Way (wt : Nat → Nat → Option Nat) : Nat → Nat → Nat → Prop
 | nil (a : Nat) : Way wt a a 0
 | snoc {a b c d l : Nat} : Way wt a b d → wt b c = some l → Way wt a c (d + l)
def IsDist (wt : Nat → Nat → Option Nat) (a b : Nat) (o : Option Nat) : Prop := match o with
 | none => ∀ d, ¬ Way wt a b d
 | some d => Way wt a b d ∧ ∀ d', Way wt a b d' → d ≤ d'
theorem dist_unique {wt : Nat → Nat → Option Nat} {a b : Nat} {o o' : Option Nat} (h : IsDist wt a b o) (h' : IsDist wt a b o') : o = o' := by
 cases o with
 | none => cases o' with
  | none => rfl
  | some d => exact absurd h'.1 (h d)
 | some d => cases o' with
  | none => exact absurd h.1 (h' d)
  | some d' => exact congrArg some (Nat.le_antisymm (h.2 d' h'.1) (h'.2 d h.1))
theorem Way.append {wt : Nat → Nat → Option Nat} {a b c d d' : Nat} (h : Way wt a b d) (h' : Way wt b c d') : Way wt a c (d + d') := by
 induction h' with
 | nil => exact h
 | snoc _ hl ih => rw [← Nat.add_assoc]; exact .snoc ih hl
theorem Way.one {wt : Nat → Nat → Option Nat} {a b l : Nat} (h : wt a b = some l) : Way wt a b l := by
 have := Way.snoc (Way.nil (wt := wt) a) h
 rwa [Nat.zero_add] at this
theorem Way.rev {wt : Nat → Nat → Option Nat} (hs : ∀ a b, wt a b = wt b a) {a b d : Nat} (h : Way wt a b d) : Way wt b a d := by
 induction h with
 | nil => exact .nil _
 | snoc _ hl ih =>
  rw [hs] at hl
  rw [Nat.add_comm]
  exact (Way.one hl).append ih
theorem IsDist.rev {wt : Nat → Nat → Option Nat} (hs : ∀ a b, wt a b = wt b a) {a b : Nat} {o : Option Nat} (h : IsDist wt a b o) : IsDist wt b a o := by
 cases o with
 | none => exact fun d hd => h d (hd.rev hs)
 | some d => exact ⟨h.1.rev hs, fun d' hd => h.2 d' (hd.rev hs)⟩
inductive WayI (wt : Nat → Nat → Option Nat) (P : Nat → Prop) : Nat → Nat → Nat → Prop
 | nil (a : Nat) : WayI wt P a a 0
 | edge {a b l : Nat} : wt a b = some l → WayI wt P a b l
 | cons {a b c d l : Nat} : wt a b = some l → P b → WayI wt P b c d → WayI wt P a c (l + d)
theorem WayI.way {wt : Nat → Nat → Option Nat} {P : Nat → Prop} {a b d : Nat} (h : WayI wt P a b d) : Way wt a b d := by
 induction h with
 | nil => exact .nil _
 | edge h => exact Way.one h
 | cons h _ _ ih => exact (Way.one h).append ih
theorem WayI.split {wt : Nat → Nat → Option Nat} {k a c d : Nat} (h : WayI wt (fun v => v < k + 1) a c d) :
  WayI wt (fun v => v < k) a c d ∨ ∃ d1 d2, WayI wt (fun v => v < k) a k d1 ∧ WayI wt (fun v => v < k) k c d2 ∧ d1 + d2 ≤ d := by
 induction h with
 | nil a => exact .inl (.nil a)
 | edge h => exact .inl (.edge h)
 | @cons a b c d l hl hb _ ih =>
  rcases Nat.lt_or_ge b k with hk | hk
  ·rcases ih with ih | ⟨d1, d2, h1, h2, h3⟩
   ·exact .inl (.cons hl hk ih)
   ·exact .inr ⟨l + d1, d2, .cons hl hk h1, h2, by omega⟩
  ·obtain rfl : b = k := by omega
   rcases ih with ih | ⟨d1, d2, h1, h2, h3⟩
   ·exact .inr ⟨l, d, .edge hl, ih, rr⟩
   ·exact .inr ⟨l, d2, .edge hl, h2, by omega⟩
theorem Way.all {wt : Nat → Nat → Option Nat} {n : Nat} (hn : ∀ a b l, wt a b = some l → a < n ∧ b < n) {a b d : Nat} (h : Way wt a b d) : WayI wt (fun v => v < n) a b d := by
 -- first as a way that begins with its first road
 have key : ∀ {b d}, Way wt a b d → ∀ {c l}, wt b c = some l → WayI wt (fun v => v < n) a c (d + l) := by
  intro b d hw
  induction hw with
  | nil => intro c l hl; rw [Nat.zero_add]; exact .edge hl
  | @snoc b c d l hw hl ih =>
   intro e l' hl'
   have hc : c < n := (hn _ _ _ hl).2
   have snoc' : ∀ {x y d}, WayI wt (fun v => v < n) x y d → y < n → ∀ {z l}, wt y z = some l → WayI wt (fun v => v < n) x z (d + l) := by
    intro x y d hxy
    induction hxy with
    | nil => intro _ z l hl; rw [Nat.zero_add]; exact .edge hl
    | edge h => intro hy z l hl; exact .cons h hy (.edge hl)
    | cons h hb _ ih => intro hy z l hl; rw [Nat.add_assoc]; exact .cons h hb (ih hy hl)
   exact snoc' (ih hl) hc hl'
 cases h with
 | nil => exact .nil _
 | snoc hw hl => exact key hw hl
def minO : Option Nat → Option Nat → Option Nat
 | none, o => o
 | some d, none => some d
 | some d, some e => some (min d e)
def addO : Option Nat → Option Nat → Option Nat
 | some d, some e => some (d + e)
 | _, _ => none
def fwStep (k : Nat) (D : Nat → Nat → Option Nat) : Nat → Nat → Option Nat := fun i j => minO (D i j) (addO (D i k) (D k j))
def fwAll (D : Nat → Nat → Option Nat) : Nat → Nat → Nat → Option Nat
 | 0 => D
 | k + 1 => fwStep k (fwAll D k)
theorem fw_ways {wt : Nat → Nat → Option Nat} {D : Nat → Nat → Option Nat} (h0 : ∀ i j d, D i j = some d → Way wt i j d) : ∀ k i j d, fwAll D k i j = some d → Way wt i j d
 | 0, i, j, d, h => h0 i j d h
 | k + 1, i, j, d, h => by
  have ih := fw_ways h0 k
  unfold fwAll fwStep at h
  cases h1 : fwAll D k i j with
  | none =>
   rw [h1] at h
   cases h2 : fwAll D k i k with
   | none => rw [h2] at h; cases h
   | some d1 => cases h3 : fwAll D k k j with
    | none => rw [h2, h3] at h; cases h
    | some d2 =>
     rw [h2, h3] at h
     obtain rfl : d1 + d2 = d := by simpa [minO, addO] using h
     exact (ih _ _ _ h2).append (ih _ _ _ h3)
  | some d0 =>
   rw [h1] at h
   cases h2 : fwAll D k i k with
   | none =>
    rw [h2] at h
    obtain rfl : d0 = d := by simpa [minO, addO] using h
    exact ih _ _ _ h1
   | some d1 => cases h3 : fwAll D k k j with
    | none =>
     rw [h2, h3] at h
     obtain rfl : d0 = d := by simpa [minO, addO] using h
     exact ih _ _ _ h1
    | some d2 =>
     rw [h2, h3] at h
     have h4 : min d0 (d1 + d2) = d := by simpa [minO, addO] using h
     rcases Nat.le_total d0 (d1 + d2) with h5 | h5
     ·rw [Nat.min_eq_left h5] at h4; subst h4; exact ih _ _ _ h1
     ·rw [Nat.min_eq_right h5] at h4; subst h4; exact (ih _ _ _ h2).append (ih _ _ _ h3)
def leO (o : Option Nat) (d : Nat) : Prop := ∃ e, o = some e ∧ e ≤ d
theorem fw_short {wt : Nat → Nat → Option Nat} {D : Nat → Nat → Option Nat} (h0 : ∀ i, D i i = some 0) (h1 : ∀ i j l, wt i j = some l → leO (D i j) l) : ∀ k i j d, WayI wt (fun v => v < k) i j d → leO (fwAll D k i j) d
 | 0, i, j, d, h => by
  cases h with
  | nil => exact ⟨0, h0 _, rr⟩
  | edge h => exact h1 _ _ _ h
  | cons _ hb _ => omega
 | k + 1, i, j, d, h => by
  have ih := fw_short h0 h1 k
  unfold fwAll fwStep
  rcases h.split with h | ⟨d1, d2, h2, h3, h4⟩
  ·obtain ⟨e, he, hed⟩ := ih _ _ _ h
   rw [he]
   cases addO (fwAll D k i k) (fwAll D k k j) with
   | none => exact ⟨e, rfl, hed⟩
   | some x => exact ⟨min e x, rfl, by omega⟩
  ·obtain ⟨e1, he1, hd1⟩ := ih _ _ _ h2
   obtain ⟨e2, he2, hd2⟩ := ih _ _ _ h3
   rw [he1, he2]
   cases fwAll D k i j with
   | none => exact ⟨e1 + e2, rfl, by omega⟩
   | some x => exact ⟨min x (e1 + e2), rfl, by omega⟩
theorem fw_dist {wt : Nat → Nat → Option Nat} {D : Nat → Nat → Option Nat} {n : Nat} (hn : ∀ a b l, wt a b = some l → a < n ∧ b < n) (h0 : ∀ i, D i i = some 0) (hw : ∀ i j d, D i j = some d → Way wt i j d)
  (h1 : ∀ i j l, wt i j = some l → leO (D i j) l) (i j : Nat) : IsDist wt i j (fwAll D n i j) := by
 have hs : ∀ d, Way wt i j d → leO (fwAll D n i j) d := fun d hd => fw_short h0 h1 n i j d (hd.all hn)
 cases h : fwAll D n i j with
 | none => exact fun d hd => by obtain ⟨e, he, _⟩ := hs d hd; rw [h] at he; cases he
 | some d => exact ⟨fw_ways hw n i j d h, fun d' hd => by obtain ⟨e, he, hle⟩ := hs d' hd; rw [h] at he; cases he; exact hle⟩
structure Dij (wt : Nat → Nat → Option Nat) (a : Nat) (D : Nat → Option Nat) (op : List Nat) : Prop where
 start : D a = some 0
 way : ∀ v d, D v = some d → Way wt a v d
 open_ : ∀ v ∈ op, ∃ d, D v = some d
 closed : ∀ u du, D u = some du → u ∉ op → ∀ v l, wt u v = some l → leO (D v) (du + l)
 order : ∀ u du, D u = some du → u ∉ op → ∀ v ∈ op, ∀ dv, D v = some dv → du ≤ dv
theorem Dij.begin (wt : Nat → Nat → Option Nat) (a : Nat) : Dij wt a (fun v => if v = a then some 0 else none) [a] where
 start := by simp
 way := fun v d h => by
  by_cases e : v = a
  ·subst e; simp at h; subst h; exact .nil _
  ·simp [e] at h
 open_ := fun v hv => ⟨0, by simp at hv; simp [hv]⟩
 closed := fun u du h hu => by
  by_cases e : u = a
  ·subst e; simp at hu
  ·simp [e] at h
 order := fun u du h hu => by
  by_cases e : u = a
  ·subst e; simp at hu
  ·simp [e] at h
theorem Dij.done {wt : Nat → Nat → Option Nat} {a : Nat} {D : Nat → Option Nat} (h : Dij wt a D []) (v : Nat) : IsDist wt a v (D v) := by
 have hs : ∀ v d, Way wt a v d → leO (D v) d := by
  intro v d hw
  induction hw with
  | nil => exact ⟨0, h.start, rr⟩
  | @snoc b c d l _ hl ih =>
   obtain ⟨e, he, hed⟩ := ih
   obtain ⟨x, hx, hxl⟩ := h.closed _ _ he (by simp) _ _ hl
   exact ⟨x, hx, by omega⟩
 cases hd : D v with
 | none => exact fun d hw => by obtain ⟨e, he, _⟩ := hs v d hw; rw [hd] at he; cases he
 | some d => exact ⟨h.way v d hd, fun d' hw => by obtain ⟨e, he, hle⟩ := hs v d' hw; rw [hd] at he; cases he; exact hle⟩
def updD (D : Nat → Option Nat) (x d : Nat) : Nat → Option Nat := fun v => if v = x then some d else D v
theorem updD_self (D : Nat → Option Nat) (x d : Nat) : updD D x d x = some d := by simp [updD]
theorem updD_ne (D : Nat → Option Nat) {x v : Nat} (d : Nat) (h : v ≠ x) : updD D x d v = D v := by simp [updD, h]
def relax1 (dAt : Nat) (x l : Nat) (s : (Nat → Option Nat) × List Nat) : (Nat → Option Nat) × List Nat :=
 match s.1 x with
 | none => (updD s.1 x (dAt + l), s.2 ++ [x])
 | some dx => if dx ≤ dAt + l then s else (updD s.1 x (dAt + l), s.2)
structure Rlx (wt : Nat → Nat → Option Nat) (a at_ dAt : Nat) (done : List (Nat × Nat)) (D : Nat → Option Nat) (op : List Nat) : Prop where
 start : D a = some 0
 way : ∀ v d, D v = some d → Way wt a v d
 open_ : ∀ v ∈ op, ∃ d, D v = some d
 atv : D at_ = some dAt
 ato : at_ ∉ op
 cl : ∀ u du, D u = some du → u ∉ op → du ≤ dAt ∧ (u ≠ at_ → ∀ v l, wt u v = some l → leO (D v) (du + l))
 dn : ∀ v l, (v, l) ∈ done → leO (D v) (dAt + l)
 od : ∀ v ∈ op, ∀ dv, D v = some dv → dAt ≤ dv
theorem Rlx.begin {wt : Nat → Nat → Option Nat} {a at_ dAt : Nat} {D : Nat → Option Nat} {op : List Nat} (h : Dij wt a D op) (ha : at_ ∈ op) (hd : D at_ = some dAt) (hm : ∀ v ∈ op, ∀ dv, D v = some dv → dAt ≤ dv) : Rlx wt a at_ dAt [] D (op.filter fun x => !decide (x = at_)) where
 start := h.start
 way := h.way
 open_ := fun v hv => h.open_ v (List.mem_filter.1 hv).1
 atv := hd
 ato := fun hv => by simp at hv
 cl := fun u du hu hn => by
  by_cases e : u = at_
  ·subst e
   rw [hd] at hu; cases hu
   exact ⟨rr, fun hne => absurd rfl hne⟩
  ·have hn' : u ∉ op := fun hv => hn (List.mem_filter.2 ⟨hv, by simp [e]⟩)
   exact ⟨h.order u du hu hn' at_ ha dAt hd, fun _ => h.closed u du hu hn'⟩
 dn := fun v l hv => by cases hv
 od := fun v hv => hm v (List.mem_filter.1 hv).1
theorem Rlx.step {wt : Nat → Nat → Option Nat} {a at_ dAt : Nat} {done : List (Nat × Nat)} {D : Nat → Option Nat} {op : List Nat} (h : Rlx wt a at_ dAt done D op) {x l : Nat} (hx : wt at_ x = some l) :
  Rlx wt a at_ dAt (done ++ [(x, l)]) (relax1 dAt x l (D, op)).1 (relax1 dAt x l (D, op)).2 := by
 have hway : Way wt a x (dAt + l) := .snoc (h.way _ _ h.atv) hx
 have hdone : ∀ {D' : Nat → Option Nat}, leO (D' x) (dAt + l) → (∀ v k, leO (D v) k → leO (D' v) k) → ∀ v k, (v, k) ∈ done ++ [(x, l)] → leO (D' v) (dAt + k) := fun h1 h2 v k hv => by
  rcases List.mem_append.1 hv with hv | hv
  ·exact h2 v _ (h.dn v k hv)
  ·obtain ⟨rfl, rfl⟩ : v = x ∧ k = l := by simpa using hv
   exact h1
 unfold relax1
 dsimp only
 cases hD : D x with
 | none =>
  dsimp only
  have hlo : ∀ v k, leO (D v) k → leO (updD D x (dAt + l) v) k := fun v k ⟨e, he, hk⟩ => by
   by_cases e' : v = x
   ·subst e'; rw [hD] at he; cases he
   ·rw [updD_ne _ _ e']; exact ⟨e, he, hk⟩
  have hax : at_ ≠ x := fun e => by rw [← e, h.atv] at hD; cases hD
  refine ⟨?_, fun v d hv => ?_, fun v hv => ?_, by rw [updD_ne _ _ hax]; exact h.atv, fun hv => ?_, fun u du hu hn => ?_, hdone ⟨_, updD_self _ _ _, rr⟩ hlo, fun v hv dv hdv => ?_⟩
  ·rw [updD_ne _ _ (fun e => by rw [← e, h.start] at hD; cases hD)]; exact h.start
  ·by_cases e : v = x
   ·subst e; rw [updD_self] at hv; cases hv; exact hway
   ·rw [updD_ne _ _ e] at hv; exact h.way v d hv
  ·by_cases e : v = x
   ·subst e; exact ⟨_, updD_self _ _ _⟩
   ·rcases List.mem_append.1 hv with hv | hv
    ·rw [updD_ne _ _ e]; exact h.open_ v hv
    ·exact absurd (by simpa using hv) e
  ·rcases List.mem_append.1 hv with hv | hv
   ·exact h.ato hv
   ·exact hax (by simpa using hv)
  ·have hux : u ≠ x := fun e => hn (List.mem_append.2 (.inr (by simp [e])))
   have hun : u ∉ op := fun hv => hn (List.mem_append.2 (.inl hv))
   rw [updD_ne _ _ hux] at hu
   obtain ⟨h1, h2⟩ := h.cl u du hu hun
   exact ⟨h1, fun hne v k hk => hlo v _ (h2 hne v k hk)⟩
  ·by_cases e : v = x
   ·subst e; rw [updD_self] at hdv; cases hdv; omega
   ·rcases List.mem_append.1 hv with hv | hv
    ·rw [updD_ne _ _ e] at hdv; exact h.od v hv dv hdv
    ·exact absurd (by simpa using hv) e
 | some dx =>
  dsimp only
  by_cases hle : dx ≤ dAt + l
  ·rw [if_pos hle]
   exact ⟨h.start, h.way, h.open_, h.atv, h.ato, h.cl, hdone ⟨dx, hD, hle⟩ (fun _ _ h => h), h.od⟩
  ·rw [if_neg hle]
   dsimp only
   -- the point is open
   have hxo : x ∈ op := Classical.byContradiction fun hn => by
    have := (h.cl x dx hD hn).1; omega
   have hlo : ∀ v k, leO (D v) k → leO (updD D x (dAt + l) v) k := fun v k ⟨e, he, hk⟩ => by
    by_cases e' : v = x
    ·subst e'; rw [hD] at he; cases he; exact ⟨_, updD_self _ _ _, by omega⟩
    ·rw [updD_ne _ _ e']; exact ⟨e, he, hk⟩
   have hax : at_ ≠ x := fun e => h.ato (e ▸ hxo)
   refine ⟨?_, fun v d hv => ?_, fun v hv => ?_, by rw [updD_ne _ _ hax]; exact h.atv, h.ato, fun u du hu hn => ?_, hdone ⟨_, updD_self _ _ _, rr⟩ hlo, fun v hv dv hdv => ?_⟩
   ·have hxa : a ≠ x := fun e => by
     rw [← e, h.start] at hD; cases hD; omega
    rw [updD_ne _ _ hxa]; exact h.start
   ·by_cases e : v = x
    ·subst e; rw [updD_self] at hv; cases hv; exact hway
    ·rw [updD_ne _ _ e] at hv; exact h.way v d hv
   ·by_cases e : v = x
    ·subst e; exact ⟨_, updD_self _ _ _⟩
    ·rw [updD_ne _ _ e]; exact h.open_ v hv
   ·have hux : u ≠ x := fun e => hn (e ▸ hxo)
    rw [updD_ne _ _ hux] at hu
    obtain ⟨h1, h2⟩ := h.cl u du hu hn
    exact ⟨h1, fun hne v k hk => hlo v _ (h2 hne v k hk)⟩
   ·by_cases e : v = x
    ·subst e; rw [updD_self] at hdv; cases hdv; omega
    ·rw [updD_ne _ _ e] at hdv; exact h.od v hv dv hdv
theorem Rlx.done_ {wt : Nat → Nat → Option Nat} {a at_ dAt : Nat} {done : List (Nat × Nat)} {D : Nat → Option Nat} {op : List Nat} (h : Rlx wt a at_ dAt done D op) (hall : ∀ v l, wt at_ v = some l → (v, l) ∈ done) : Dij wt a D op where
 start := h.start
 way := h.way
 open_ := h.open_
 closed := fun u du hu hn v l hl => by
  by_cases e : u = at_
  ·subst e; rw [h.atv] at hu; cases hu; exact h.dn v l (hall v l hl)
  ·exact (h.cl u du hu hn).2 e v l hl
 order := fun u du hu hn v hv dv hdv => Nat.le_trans (h.cl u du hu hn).1 (h.od v hv dv hdv)
def nearO (l : List (Option Nat)) : Option Nat := l.foldl minO none
def arriveO (near : Option Nat) (T S : Nat) (U : Int) : Option Nat := match near with
 | none => none
 | some d => if 9223372036854775807 < T + S * d then none else if U ≤ ((T + S * d : Nat) : Int) then none else some (T + S * d)
theorem too_far {T S d M : Nat} (hT : T ≤ M) : (0 < d ∧ (M - T) / d < S) ↔ M < T + S * d := by
 constructor
 ·rintro ⟨h0, h1⟩
  have := (Nat.div_lt_iff_lt_mul h0).1 h1
  omega
 ·intro h
  have h0 : 0 < d := by
   rcases Nat.eq_zero_or_pos d with e | e
   ·subst e; simp at h; omega
   ·exact e
  exact ⟨h0, (Nat.div_lt_iff_lt_mul h0).2 (by omega)⟩
theorem minO_none (a : Option Nat) : minO a none = a := by cases a <;> rfl
theorem minO_if (d e : Nat) : minO (some d) (some e) = if e < d then some e else some d := by
 show some (min d e) = _
 by_cases h : e < d
 ·rw [if_pos h, Nat.min_eq_right (by omega)]
 ·rw [if_neg h, Nat.min_eq_left (by omega)]
abbrev RoadN := Nat × Nat × Nat
def joinsN (r : RoadN) (a b : Nat) : Bool := (decide (r.1 = a) && decide (r.2.1 = b)) || (decide (r.1 = b) && decide (r.2.1 = a))
theorem joins_comm (r : RoadN) (a b : Nat) : joinsN r a b = joinsN r b a := by unfold joinsN; rw [Bool.or_comm]
theorem joins_iff {r : RoadN} {a b : Nat} : joinsN r a b = true ↔ (r.1 = a ∧ r.2.1 = b) ∨ (r.1 = b ∧ r.2.1 = a) := by
 unfold joinsN; simp
def wtN (rs : List RoadN) (a b : Nat) : Option Nat := (rs.find? fun r => joinsN r a b).map fun r => r.2.2
theorem wt_symm (rs : List RoadN) (a b : Nat) : wtN rs a b = wtN rs b a := by
 unfold wtN
 rw [show (fun r => joinsN r a b) = fun r => joinsN r b a from funext fun r => joins_comm r a b]
def nearN (rs : List RoadN) (v : Nat) : List (Nat × Nat) := rs.filterMap fun r => if r.1 = v then some (r.2.1, r.2.2) else if r.2.1 = v then some (r.1, r.2.2) else none
structure RoadsOK (n : Nat) (rs : List RoadN) : Prop where
 lt : ∀ r ∈ rs, r.1 < n ∧ r.2.1 < n ∧ r.1 ≠ r.2.1 ∧ 1 ≤ r.2.2 ∧ r.2.2 ≤ 1073741824
 one : rs.Pairwise fun r s => joinsN r s.1 s.2.1 = false
theorem near_snoc (rs : List RoadN) (r : RoadN) (v : Nat) : nearN (rs ++ [r]) v = nearN rs v ++ (if r.1 = v then [(r.2.1, r.2.2)] else if r.2.1 = v then [(r.1, r.2.2)] else []) := by
 unfold nearN
 rw [List.filterMap_append]
 congr 1
 by_cases h : r.1 = v
 ·simp [h]
 ·by_cases h' : r.2.1 = v
  ·simp [h, h']
  ·simp [h, h']
theorem mem_near {rs : List RoadN} {v x l : Nat} : (x, l) ∈ nearN rs v ↔ ∃ r ∈ rs, (r.1 = v ∧ r.2.1 = x ∧ r.2.2 = l) ∨ (r.1 ≠ v ∧ r.2.1 = v ∧ r.1 = x ∧ r.2.2 = l) := by
 unfold nearN
 rw [List.mem_filterMap]
 constructor
 ·rintro ⟨r, hr, h⟩
  refine ⟨r, hr, ?_⟩
  by_cases h1 : r.1 = v
  ·rw [if_pos h1] at h; simp only [Option.some.injEq, Prod.mk.injEq] at h; exact .inl ⟨h1, h⟩
  ·rw [if_neg h1] at h
   by_cases h2 : r.2.1 = v
   ·rw [if_pos h2] at h; simp only [Option.some.injEq, Prod.mk.injEq] at h; exact .inr ⟨h1, h2, h⟩
   ·rw [if_neg h2] at h; cases h
 ·rintro ⟨r, hr, ⟨h1, h2, h3⟩ | ⟨h1, h2, h3, h4⟩⟩
  ·exact ⟨r, hr, by rw [if_pos h1, h2, h3]⟩
  ·exact ⟨r, hr, by rw [if_neg h1, if_pos h2, h3, h4]⟩
theorem near_any {rs : List RoadN} {a b : Nat} (hab : a ≠ b) : (nearN rs a).any (fun p => decide (p.1 = b)) = rs.any fun r => joinsN r a b := by
 rw [Bool.eq_iff_iff, List.any_eq_true, List.any_eq_true]
 constructor
 ·rintro ⟨⟨x, l⟩, hm, hx⟩
  obtain rfl : x = b := by simpa using hx
  obtain ⟨r, hr, ⟨h1, h2, _⟩ | ⟨_, h2, h3, _⟩⟩ := mem_near.1 hm
  ·exact ⟨r, hr, joins_iff.2 (.inl ⟨h1, h2⟩)⟩
  ·exact ⟨r, hr, joins_iff.2 (.inr ⟨h3, h2⟩)⟩
 ·rintro ⟨r, hr, h⟩
  rcases joins_iff.1 h with ⟨h1, h2⟩ | ⟨h1, h2⟩
  ·exact ⟨(b, r.2.2), mem_near.2 ⟨r, hr, .inl ⟨h1, h2, rfl⟩⟩, by simp⟩
  ·exact ⟨(b, r.2.2), mem_near.2 ⟨r, hr, .inr ⟨fun e => hab (e.symm.trans h1), h2, h1, rfl⟩⟩, by simp⟩
theorem near_wt {n : Nat} {rs : List RoadN} (h : RoadsOK n rs) {v x l : Nat} : (x, l) ∈ nearN rs v ↔ wtN rs v x = some l := by
 rw [mem_near]
 unfold wtN
 constructor
 ·rintro ⟨r, hr, hc⟩
  have hj : joinsN r v x = true := by
   rcases hc with ⟨h1, h2, _⟩ | ⟨_, h2, h3, _⟩
   ·exact joins_iff.2 (.inl ⟨h1, h2⟩)
   ·exact joins_iff.2 (.inr ⟨h3, h2⟩)
  have hl : r.2.2 = l := by rcases hc with ⟨_, _, h⟩ | ⟨_, _, _, h⟩ <;> exact h
  obtain ⟨s, hs⟩ : ∃ s, rs.find? (fun r => joinsN r v x) = some s := by
   cases hf : rs.find? (fun r => joinsN r v x) with
   | some s => exact ⟨s, rfl⟩
   | none => exact absurd hj (by simpa using List.find?_eq_none.1 hf r hr)
  have hsj : joinsN s v x = true := by simpa using List.find?_some hs
  have hsm := List.mem_of_find?_eq_some hs
  -- both join the same points: they are one
  have : s = r := by
   have key : ∀ {a b : RoadN}, joinsN a v x = true → joinsN b v x = true → joinsN a b.1 b.2.1 = true := by
    intro a b ha hb
    rcases joins_iff.1 ha with ⟨a1, a2⟩ | ⟨a1, a2⟩ <;> rcases joins_iff.1 hb with ⟨b1, b2⟩ | ⟨b1, b2⟩ <;> rw [joins_iff, a1, a2, b1, b2] <;> simp
   rcases Classical.em (s = r) with e | e
   ·exact e
   ·exfalso
    obtain ⟨i, hi, rfl⟩ := List.getElem_of_mem hsm
    obtain ⟨j, hjl, rfl⟩ := List.getElem_of_mem hr
    have hp := List.pairwise_iff_getElem.1 h.one
    rcases Nat.lt_trichotomy i j with hij | hij | hij
    ·have := hp i j hi hjl hij; rw [key hsj hj] at this; cases this
    ·subst hij; exact e rfl
    ·have := hp j i hjl hi hij; rw [key hj hsj] at this; cases this
  rw [hs, this, ← hl]; rfl
 ·intro hw
  cases hf : rs.find? (fun r => joinsN r v x) with
  | none => rw [hf] at hw; cases hw
  | some r =>
   rw [hf] at hw
   obtain rfl : r.2.2 = l := by simpa using hw
   have hrm := List.mem_of_find?_eq_some hf
   have hrj : joinsN r v x = true := by simpa using List.find?_some hf
   refine ⟨r, hrm, ?_⟩
   have hne := (h.lt r hrm).2.2.1
   rcases joins_iff.1 hrj with ⟨h1, h2⟩ | ⟨h1, h2⟩
   ·exact .inl ⟨h1, h2, rfl⟩
   ·exact .inr ⟨fun e => hne (e.trans h2.symm), h2, h1, rfl⟩
theorem wt_lt {n : Nat} {rs : List RoadN} (h : RoadsOK n rs) (a b l : Nat) (hw : wtN rs a b = some l) : a < n ∧ b < n := by
 obtain ⟨r, hr, hc⟩ := mem_near.1 ((near_wt h).2 hw)
 have := h.lt r hr
 rcases hc with ⟨h1, h2, _⟩ | ⟨_, h2, h3, _⟩ <;> omega
theorem wt_len {n : Nat} {rs : List RoadN} (h : RoadsOK n rs) {a b l : Nat} (hw : wtN rs a b = some l) : l ≤ 1073741824 := by
 obtain ⟨r, hr, hc⟩ := mem_near.1 ((near_wt h).2 hw)
 have := h.lt r hr
 rcases hc with ⟨_, _, h3⟩ | ⟨_, _, _, h3⟩ <;> omega
abbrev RoadI := Int × Int × Int
def toRoad (r : RoadI) : RoadN := (r.1.toNat, r.2.1.toNat, r.2.2.toNat)
def roadsE (n : Nat) (done : List RoadN) : List RoadI → Int
 | [] => 0
 | r :: rs => if min r.1 r.2.1 < 0 ∨ (n : Int) ≤ max r.1 r.2.1 then 3 else if r.1 = r.2.1 then 9 else if r.2.2 < 1 ∨ 1073741824 < r.2.2 then 2
  else if done.any (fun s => joinsN s r.1.toNat r.2.1.toNat) then 6 else roadsE n (done ++ [toRoad r]) rs
theorem roads_ok {n : Nat} : ∀ {rs : List RoadI} {done : List RoadN}, roadsE n done rs = 0 → RoadsOK n done → RoadsOK n (done ++ rs.map toRoad)
 | [], done, _, h => by simpa using h
 | r :: rs, done, he, h => by
  unfold roadsE at he
  by_cases h1 : min r.1 r.2.1 < 0 ∨ (n : Int) ≤ max r.1 r.2.1
  ·rw [if_pos h1] at he; cases he
  rw [if_neg h1] at he
  by_cases h2 : r.1 = r.2.1
  ·rw [if_pos h2] at he; cases he
  rw [if_neg h2] at he
  by_cases h3 : r.2.2 < 1 ∨ 1073741824 < r.2.2
  ·rw [if_pos h3] at he; cases he
  rw [if_neg h3] at he
  by_cases h4 : done.any (fun s => joinsN s r.1.toNat r.2.1.toNat) = true
  ·rw [if_pos h4] at he; cases he
  rw [if_neg h4] at he
  have := roads_ok he ⟨fun s hs => ?_, ?_⟩
  ·rwa [List.append_assoc] at this
  ·rcases List.mem_append.1 hs with hs | hs
   ·exact h.lt s hs
   ·obtain rfl : s = toRoad r := by simpa using hs
    show r.1.toNat < n ∧ r.2.1.toNat < n ∧ r.1.toNat ≠ r.2.1.toNat ∧ 1 ≤ r.2.2.toNat ∧ r.2.2.toNat ≤ 1073741824
    omega
  ·rw [List.pairwise_append]
   refine ⟨h.one, by simp, fun a ha b hb => ?_⟩
   obtain rfl : b = toRoad r := by simpa using hb
   cases hj : joinsN a (toRoad r).1 (toRoad r).2.1 with
   | false => rfl
   | true => exact absurd (List.any_eq_true.2 ⟨a, ha, hj⟩) h4
def D0 (rs : List RoadN) (i j : Nat) : Option Nat := if i = j then some 0 else wtN rs i j
def distN (n : Nat) (rs : List RoadN) (a b : Nat) : Option Nat := fwAll (D0 rs) n a b
theorem dist_is {n : Nat} {rs : List RoadN} (h : RoadsOK n rs) (a b : Nat) : IsDist (wtN rs) a b (distN n rs a b) := by
 refine fw_dist (wt_lt h) (fun i => by simp [D0]) (fun i j d hd => ?_) (fun i j l hl => ?_) a b
 ·unfold D0 at hd
  by_cases e : i = j
  ·rw [if_pos e] at hd; cases hd; subst e; exact .nil _
  ·rw [if_neg e] at hd; exact Way.one hd
 ·unfold D0
  by_cases e : i = j
  ·rw [if_pos e]; exact ⟨0, rfl, Nat.zero_le _⟩
  ·rw [if_neg e]; exact ⟨l, hl, rr⟩
def namesE (done : List ByteArray) : List ByteArray → Int
 | [] => 0
 | s :: ss => if namedM s = false then 15 else if done.any (fun x => decide (x = s)) then 6 else namesE (done ++ [s]) ss
def newE (names : List ByteArray) (roads : List RoadI) : Int :=
 if 128 < names.length ∨ 512 < roads.length then 12 else if namesE [] names ≠ 0 then namesE [] names else roadsE names.length [] roads
end Go.Proofs.YtaglfmlgbcmakaaGreatDoor
namespace Go.Proofs.YtaglfmlgbcmakaaGreatDoor
def arrI : Option Nat → Int
 | none => -1
 | some t => t
end Go.Proofs.YtaglfmlgbcmakaaGreatDoor
namespace Go.Proofs.YtaglfmlgbcmakaaGreatDoor
open Go.RowKit Go.Sort
section
variable {α : Type} [Inhabited α]
theorem ins_same {lt lt' : α → α → Bool} (a : Nat) : ∀ (j : Nat) (d : Array α), j < d.size → (∀ k, k < j → lt d[j]! d[k]! = lt' d[j]! d[k]!) → insInner lt a j d = insInner lt' a j d
 | 0, _, _, _ => rfl
 | j + 1, d, hj, h => by
  unfold insInner
  rw [h j (by omega)]
  split
  ·refine ins_same a j _ (by rw [swp_size]; omega) fun k hk => ?_
   rw [swp_get d hj (by omega), swp_get d hj (by omega)]
   have h1 : ¬ k = j := by omega
   have h2 : ¬ k = j + 1 := by omega
   simp only [h1, h2, if_true, if_false]
   exact h k (by omega)
  ·rfl
theorem ins_from {lt : α → α → Bool} {S : α → Prop} (a : Nat) : ∀ (j : Nat) (d : Array α), j < d.size → (∀ k, k ≤ j → S d[k]!) → (∀ k, k ≤ j → S (insInner lt a j d)[k]!) ∧ (∀ k, j < k → (insInner lt a j d)[k]! = d[k]!) ∧ (insInner lt a j d).size = d.size
 | 0, d, _, h => ⟨h, fun _ _ => rfl, rfl⟩
 | j + 1, d, hj, h => by
  unfold insInner
  split
  ·obtain ⟨h1, h2, h3⟩ := ins_from (lt := lt) (S := S) a j (swp d (j + 1) j) (by rw [swp_size]; omega) (fun k hk => by
    rw [swp_get d hj (by omega)]
    split
    ·exact h _ (by omega)
    ·split
     ·exact h _ (by omega)
     ·exact h _ (by omega))
   refine ⟨fun k hk => ?_, fun k hk => ?_, by rw [h3, swp_size]⟩
   ·by_cases e : k ≤ j
    ·exact h1 k e
    ·rw [h2 k (by omega), swp_get d hj (by omega)]
     split
     ·exact h _ (by omega)
     ·split
      ·exact h _ (by omega)
      ·exact h _ (by omega)
   ·rw [h2 k (by omega), swp_get d hj (by omega), if_neg (by omega), if_neg (by omega)]
  ·exact ⟨h, fun _ _ => rfl, rfl⟩
theorem out_same {lt lt' : α → α → Bool} {d0 : Array α} (a b : Nat) (hb : b ≤ d0.size) (H : ∀ i k, k < i → i < b → lt d0[i]! d0[k]! = lt' d0[i]! d0[k]!) :
  ∀ (n i : Nat) (d : Array α), b - i = n → d.size = d0.size → (∀ p, i ≤ p → d[p]! = d0[p]!) → (∀ k, k < i → ∃ k', k' < i ∧ d[k]! = d0[k']!) → insOuter lt a b i d = insOuter lt' a b i d
 | 0, i, d, hn, _, _, _ => by
  unfold insOuter
  rw [if_neg (by omega), if_neg (by omega)]
 | n + 1, i, d, hn, hs, hp, hk => by
  have e : insInner lt a i d = insInner lt' a i d := ins_same a i d (by omega) fun k hki => by
   obtain ⟨k', hk', e⟩ := hk k hki
   rw [hp i rr, e]
   exact H i k' hk' (by omega)
  unfold insOuter
  rw [if_pos (by omega), if_pos (by omega), e]
  obtain ⟨h1, h2, h3⟩ := ins_from (lt := lt') (S := fun x => ∃ k', k' < i + 1 ∧ x = d0[k']!) a i d (by omega) (fun k hki => by
   rcases Nat.lt_or_ge k i with h | h
   ·obtain ⟨k', hk', e⟩ := hk k h
    exact ⟨k', by omega, e⟩
   ·obtain rfl : k = i := by omega
    exact ⟨k, by omega, hp k rr⟩)
  exact out_same a b hb H n (i + 1) _ (by omega) (by rw [h3, hs]) (fun p hip => by rw [h2 p (by omega)]; exact hp p (by omega)) (fun k hki => h1 k (by omega))
theorem sort_same {lt lt' : α → α → Bool} {d : Array α} (H : ∀ i k, k < i → i < d.size → lt d[i]! d[k]! = lt' d[i]! d[k]!) : insertionSort lt d 0 d.size = insertionSort lt' d 0 d.size := by
 unfold insertionSort
 refine out_same 0 d.size rr H _ 1 d rfl rfl (fun _ _ => rfl) (fun k hk => ⟨k, hk, rfl⟩)
end
theorem stable_rank {t : Nat → Option Nat} {rk : Nat → Int} (hr : ∀ i j, decide (rk i < rk j) = match t i, t j with | some x, some y => decide (x < y) | some _, none => true | none, _ => false)
  {p : Nat → Bool} {m : Nat} {d : Array Nat} (hd : d.toList = (List.range m).filter p) : (insertionSort (fun i j => decide (rk i < rk j)) d 0 d.size).toList = byRank (waveLt t) p m := by
 have hin : d.toList.Pairwise (fun a b => a < b) := by rw [hd]; exact (List.pairwise_lt_range (n := m)).filter _
 have hlt : ∀ i k, k < i → i < d.size → d[k]! < d[i]! := fun i k hk hi => by
  have := List.pairwise_iff_getElem.1 hin k i (by simpa using by omega) (by simpa using hi) hk
  rw [getElem!_pos d k (by omega), getElem!_pos d i hi]
  simpa using this
 have hw : ∀ i j : Nat, j < i → decide (rk i < rk j) = waveLt t i j := fun i j hji => by
  rw [hr]
  unfold waveLt
  cases t i <;> cases t j <;> simp <;> omega
 rw [sort_same (lt' := waveLt t) fun i k hk hi => hw _ _ (hlt i k hk hi)]
 have hS := wave_strict t
 have hswo : SWO (waveLt t) := ⟨hS.irr, hS.tr, fun x y z h1 h2 => by
  cases h : waveLt t x z with
  | false => rfl
  | true =>
   cases h3 : waveLt t y x with
   | false => have := hS.tot x y h1 h3; subst this; rw [h] at h2; cases h2
   | true => have := hS.tr y x z h3 h; rw [this] at h2; cases h2⟩
 obtain ⟨⟨h1, _, h3⟩, h4⟩ := insertionSort_holds hswo d 0 d.size (Nat.zero_le _) rr
 generalize insertionSort (waveLt t) d 0 d.size = d' at h1 h3 h4
 have hperm : d'.toList.Perm d.toList := by
  have e1 : (d'.extract 0 d.size).toList = d'.toList := by rw [← h1]; simp
  have e2 : (d.extract 0 d.size).toList = d.toList := by simp
  rw [e1, e2] at h3
  exact h3
 have hnd : d'.toList.Nodup := hperm.nodup_iff.2 (hin.imp fun h => by omega)
 refine byRank_unique hS p m ?_ fun i => by rw [hperm.mem_iff, hd, List.mem_filter, List.mem_range]
 rw [List.pairwise_iff_getElem]
 intro i j hi hj hij
 have hi' : i < d'.size := by simpa using hi
 have hj' : j < d'.size := by simpa using hj
 have h5 := h4 i j (Nat.zero_le _) hij (by omega)
 rw [getElem!_pos d' i hi', getElem!_pos d' j hj'] at h5
 have hne : d'.toList[i] ≠ d'.toList[j] := List.pairwise_iff_getElem.1 hnd i j hi hj hij
 cases h6 : waveLt t d'.toList[i] d'.toList[j] with
 | true => rfl
 | false => exact absurd (hS.tot _ _ h6 (by simpa using h5)) hne
end Go.Proofs.YtaglfmlgbcmakaaGreatDoor
namespace Go.Proofs.YtaglfmlgbcmakaaGreatDoor
open Go.RowKit
structure WaveD where
 law : Int
 at_ : List Int
 time : Int
 slow : Int
 fin : Int
def atErr (n : Nat) (done : List Int) : List Int → Int
 | [] => 0
 | a :: rr1 => if a < 0 ∨ (n : Int) ≤ a then 3 else if done.any (fun b => decide (b = a)) then 6 else atErr n (done ++ [a]) rr1
def oneE (n : Nat) (x : WaveD) : Int := if atErr n [] x.at_ ≠ 0 then atErr n [] x.at_ else if min x.time x.slow < 0 ∨ 1073741824 < max x.time x.slow then 2 else 0
def eachE (n m : Nat) : List WaveD → Int
 | [] => 0
 | x :: xs => if x.law < 0 ∨ (m : Int) ≤ x.law then 3 else if oneE n x ≠ 0 then oneE n x else eachE n m xs
def waveE (n : Nat) (ls : List LawD) (ws : List WaveD) : Int := if n = 0 then 1 else if lawsE ls ≠ 0 then lawsE ls else if 64 < ws.length then 12 else eachE n ls.length ws
def nearM (n : Nat) (rs : List RoadN) (x : WaveD) (a : Nat) : Option Nat := nearO (x.at_.map fun b => distN n rs a b.toNat)
def arrM (n : Nat) (rs : List RoadN) (x : WaveD) (a : Nat) : Option Nat := arriveO (nearM n rs x a) x.time.toNat x.slow.toNat x.fin
def arriveM (n : Nat) (rs : List RoadN) (x : WaveD) : Int × List Int := if n = 0 then (1, []) else if oneE n x ≠ 0 then (oneE n x, []) else (0, (List.range n).map fun a => arrI (arrM n rs x a))
def tAt (n : Nat) (rs : List RoadN) (ws : List WaveD) (a i : Nat) : Option Nat := (ws[i]?).bind fun x => arrM n rs x a
def byNow (now : Int) : Option Nat → Bool
 | none => false
 | some t => decide ((t : Int) ≤ now)
def lineN (n : Nat) (rs : List RoadN) (ws : List WaveD) (a : Nat) (now : Int) : List Nat := byRank (waveLt (tAt n rs ws a)) (fun i => byNow now (tAt n rs ws a i)) ws.length
def lawAt (ws : List WaveD) (i : Nat) : Int := ((ws[i]?).map WaveD.law).getD 0
def lineL (n : Nat) (rs : List RoadN) (ws : List WaveD) (a : Nat) (now : Int) : List Int := (lineN n rs ws a now).map (lawAt ws)
def lineM (n : Nat) (rs : List RoadN) (ls : List LawD) (ws : List WaveD) (a now : Int) : Int × List Int :=
 if waveE n ls ws ≠ 0 then (waveE n ls ws, []) else if a < 0 ∨ (n : Int) ≤ a then (3, []) else (0, lineL n rs ws a.toNat now)
def putL38 (ls : List LawD) (on : List Int) : List LawD := on.filterMap fun i => ls[i.toNat]?
def formAt (n : Nat) (rs : List RoadN) (ls : List LawD) (ws : List WaveD) (w : List Snd) (now : Int) (a : Nat) : Int × List Snd := deriveM (putL38 ls (lineL n rs ws a now)) w
def formsGo (f : Nat → Int × List Snd) (done : List (List Snd)) : List Nat → Int × List (List Snd)
 | [] => (0, done)
 | a :: rr1 => if (f a).1 ≠ 0 then ((f a).1, []) else formsGo f (done ++ [(f a).2]) rr1
def formsM38 (n : Nat) (rs : List RoadN) (ls : List LawD) (ws : List WaveD) (w : List Snd) (now : Int) : Int × List (List Snd) :=
 if waveE n ls ws ≠ 0 then (waveE n ls ws, []) else if wcheck w ≠ 0 then (wcheck w, []) else formsGo (formAt n rs ls ws w now) [] (List.range n)
def firstEq (fs : List (List Snd)) (x : List Snd) : Int := match fs.findIdx? (fun y => decide (x = y)) with
 | some k => k
 | none => -1
def valuesM (n : Nat) (rs : List RoadN) (ls : List LawD) (ws : List WaveD) (w : List Snd) (now : Int) : Int × List Int :=
 if (formsM38 n rs ls ws w now).1 ≠ 0 then ((formsM38 n rs ls ws w now).1, []) else (0, (formsM38 n rs ls ws w now).2.map (firstEq (formsM38 n rs ls ws w now).2))
def relicsM (n : Nat) (rs : List RoadN) (ls : List LawD) (ws : List WaveD) (k : Int) : Int × List Int :=
 if waveE n ls ws ≠ 0 then (waveE n ls ws, []) else if k < 0 ∨ (ws.length : Int) ≤ k then (3, []) else
  (0, ((List.range n).filter fun a => (tAt n rs ws a k.toNat).isNone).map fun (a : Nat) => (a : Int))
def comesB (n : Nat) (rs : List RoadN) (ws : List WaveD) (i j a : Nat) : Bool := (tAt n rs ws a i).isSome && waveLt (tAt n rs ws a) i j
def crossedM (n : Nat) (rs : List RoadN) (ls : List LawD) (ws : List WaveD) (i j : Int) : Int × List Int :=
 if waveE n ls ws ≠ 0 then (waveE n ls ws, []) else if min i j < 0 ∨ (ws.length : Int) ≤ max i j then (3, []) else
  (0, ((List.range n).filter (comesB n rs ws i.toNat j.toNat)).map fun (a : Nat) => (a : Int))
-- what is allowed
theorem at_ok {n : Nat} : ∀ {rr1 done : List Int}, atErr n done rr1 = 0 → ∀ a ∈ rr1, 0 ≤ a ∧ a < n
 | [], _, _, a, ha => by cases ha
 | b :: bs, done, h, a, ha => by
  unfold atErr at h
  by_cases h1 : b < 0 ∨ (n : Int) ≤ b
  ·rw [if_pos h1] at h; cases h
  rw [if_neg h1] at h
  by_cases h2 : done.any (fun x => decide (x = b)) = true
  ·rw [if_pos h2] at h; cases h
  rw [if_neg h2] at h
  rcases List.mem_cons.1 ha with e | ha
  ·subst e; omega
  ·exact at_ok h a ha
theorem one_ok {n : Nat} {x : WaveD} (h : oneE n x = 0) : (∀ a ∈ x.at_, 0 ≤ a ∧ a < n) ∧ 0 ≤ x.time ∧ x.time ≤ 1073741824 ∧ 0 ≤ x.slow ∧ x.slow ≤ 1073741824 := by
 unfold oneE at h
 by_cases h1 : atErr n [] x.at_ ≠ 0
 ·rw [if_pos h1] at h; exact absurd h h1
 rw [if_neg h1] at h
 by_cases h2 : min x.time x.slow < 0 ∨ 1073741824 < max x.time x.slow
 ·rw [if_pos h2] at h; cases h
 exact ⟨at_ok (by simpa using h1), by omega, by omega, by omega, by omega⟩
theorem each_ok {n m : Nat} : ∀ {ws : List WaveD}, eachE n m ws = 0 → ∀ x ∈ ws, 0 ≤ x.law ∧ x.law < m ∧ oneE n x = 0
 | [], _, x, hx => by cases hx
 | y :: ys, h, x, hx => by
  unfold eachE at h
  by_cases h1 : y.law < 0 ∨ (m : Int) ≤ y.law
  ·rw [if_pos h1] at h; cases h
  rw [if_neg h1] at h
  by_cases h2 : oneE n y ≠ 0
  ·rw [if_pos h2] at h; exact absurd h h2
  rw [if_neg h2] at h
  rcases List.mem_cons.1 hx with e | hx
  ·subst e; exact ⟨by omega, by omega, by simpa using h2⟩
  ·exact each_ok h x hx
theorem wave_ok {n : Nat} {ls : List LawD} {ws : List WaveD} (h : waveE n ls ws = 0) : 0 < n ∧ lawsE ls = 0 ∧ ws.length ≤ 64 ∧ ∀ x ∈ ws, 0 ≤ x.law ∧ x.law < ls.length ∧ oneE n x = 0 := by
 unfold waveE at h
 by_cases h1 : n = 0
 ·rw [if_pos h1] at h; cases h
 rw [if_neg h1] at h
 by_cases h2 : lawsE ls ≠ 0
 ·rw [if_pos h2] at h; exact absurd h h2
 rw [if_neg h2] at h
 by_cases h3 : 64 < ws.length
 ·rw [if_pos h3] at h; cases h
 rw [if_neg h3] at h
 exact ⟨by omega, by simpa using h2, by omega, each_ok h⟩
theorem tAt_some {n : Nat} {rs : List RoadN} {ws : List WaveD} {a i t : Nat} (h : tAt n rs ws a i = some t) : ∃ x, ws[i]? = some x ∧ arrM n rs x a = some t := by
 unfold tAt at h
 cases hx : ws[i]? with
 | none => rw [hx] at h; cases h
 | some x => rw [hx] at h; exact ⟨x, rfl, h⟩
theorem arrive_lt {o : Option Nat} {T S : Nat} {U : Int} {t : Nat} (h : arriveO o T S U = some t) : t ≤ 9223372036854775807 ∧ (t : Int) < U ∧ T ≤ t := by
 unfold arriveO at h
 cases o with
 | none => cases h
 | some d =>
  dsimp only at h
  split at h
  ·cases h
  ·split at h
   ·cases h
   ·obtain rfl : T + S * d = t := by simpa using h
    exact ⟨by omega, by omega, by omega⟩
def exNames : List ByteArray := [⟨#[97]⟩, ⟨#[98]⟩, ⟨#[99]⟩, ⟨#[100]⟩, ⟨#[101]⟩]
def exRoads : List RoadI := [(0, 1, 4), (1, 2, 3), (2, 3, 1)]
def exRoadN : List RoadN := [(0, 1, 4), (1, 2, 3), (2, 3, 1)]
def wv0 : WaveD := ⟨0, [0], 2, 1, 100⟩
def wv1 : WaveD := ⟨1, [3], 0, 3, 13⟩
theorem ex_new : newE exNames exRoads = 0 := by kernel_rfl
theorem ex_roads : exRoads.map toRoad = exRoadN := rfl
theorem ex_arr0 : arriveM 5 exRoadN wv0 = (0, [2, 6, 9, 10, -1]) := by kernel_rfl
theorem ex_arr1 : arriveM 5 exRoadN wv1 = (0, [-1, 12, 3, 0, -1]) := by kernel_rfl
theorem ex_line : lineM 5 exRoadN [vD, fD] [wv0, wv1] 2 9 = (0, [1, 0]) := by kernel_rfl
theorem ex_cross : crossedM 5 exRoadN [vD, fD] [wv0, wv1] 0 1 = (0, [0, 1]) := by kernel_rfl
theorem ex_forms : formsM38 5 exRoadN [vD, fD] [wv0, wv1] [sA, sP, sA] 12 = (0, [[sA, sB, sA], [sA, sB], [sA, sP], [sA, sP], [sA, sP, sA]]) := by kernel_rfl
-- how long the shortest ways are
theorem dist_comm {n : Nat} {rs : List RoadN} (h : RoadsOK n rs) (a b : Nat) : distN n rs a b = distN n rs b a :=
 dist_unique (dist_is h a b) ((dist_is h b a).rev (wt_symm rs))
-- lines that grow
theorem rank_len {lt : Nat → Nat → Bool} (h : Strict lt) (p : Nat → Bool) (m : Nat) : (byRank lt p m).length = ((List.range m).filter p).length := by
 refine List.Perm.length_eq ((List.perm_ext_iff_of_nodup ?_ ?_).2 fun i => ?_)
 ·exact (byRank_sorted h p m).imp fun {a b} hab e => by subst e; rw [h.irr] at hab; cases hab
 ·exact (List.nodup_range (n := m)).filter _
 ·rw [byRank_mem h, List.mem_filter, List.mem_range]
-- lists of points gone over
-- lists of points gone over
section
variable {P : Nat → Bool} {n c : Nat}
end
section
variable {n : Nat} {rs : List RoadN} {ws : List WaveD} {i j c s t : Nat}
end
theorem reach_some {n : Nat} {rs : List RoadN} {x : WaveD} {c d : Nat} (hn : nearM n rs x c = some d) (hu : x.fin ≤ 9223372036854775807) (h : ((x.time.toNat + x.slow.toNat * d : Nat) : Int) < x.fin) : arrM n rs x c = some (x.time.toNat + x.slow.toNat * d) := by
 unfold arrM arriveO
 rw [hn]
 dsimp only
 rw [if_neg (by omega), if_neg (by omega)]
theorem reach_none {n : Nat} {rs : List RoadN} {x : WaveD} {c d : Nat} (hn : nearM n rs x c = some d) (h : x.fin ≤ ((x.time.toNat + x.slow.toNat * d : Nat) : Int)) : arrM n rs x c = none := by
 unfold arrM arriveO
 rw [hn]
 dsimp only
 split
 ·rfl
 ·rfl
section
variable {n : Nat} {rs : List RoadN} {ws : List WaveD} {a : Nat}
end
def nmK (i : Nat) : ByteArray := ⟨#[112, UInt8.ofNat (97 + i / 12), UInt8.ofNat (97 + i % 12)]⟩
def nmL (k : Nat) : List ByteArray := (List.range k).map nmK
def rdK (i : Nat) : RoadI := ((i : Int), ((i + 1 : Nat) : Int), 1073741824)
def rdL (k : Nat) : List RoadI := (List.range k).map rdK
def longN : List RoadN := (List.range 127).map fun i => (i, i + 1, 1073741824)
theorem rd_long : (rdL 127).map toRoad = longN := by
 unfold rdL longN
 rw [List.map_map]
 refine List.map_congr_left fun i _ => ?_
 show (Int.toNat (i : Int), Int.toNat ((i + 1 : Nat) : Int), Int.toNat 1073741824) = _
 rw [Int.toNat_natCast, Int.toNat_natCast]; rfl
theorem nm_len (k : Nat) : (nmL k).length = k := by unfold nmL; simp
theorem nm_snoc (k : Nat) : nmL (k + 1) = nmL k ++ [nmK k] := by unfold nmL; rw [List.range_succ, List.map_append]; rfl
theorem rd_snoc (k : Nat) : rdL (k + 1) = rdL k ++ [rdK k] := by unfold rdL; rw [List.range_succ, List.map_append]; rfl
theorem long_names : namesE [] (nmL 128) = 0 := by kernel_rfl
theorem long_roads : roadsE 128 [] (rdL 127) = 0 := by kernel_rfl
theorem long_new : newE (nmL 128) (rdL 127) = 0 := by
 unfold newE
 rw [nm_len, if_neg (by unfold rdL; simp), long_names, if_neg (by simp), long_roads]
theorem long_ok : RoadsOK 128 longN where
 lt := fun r hr => by
  obtain ⟨i, hi, rfl⟩ := List.mem_map.1 hr
  have := List.mem_range.1 hi
  show i < 128 ∧ i + 1 < 128 ∧ i ≠ i + 1 ∧ 1 ≤ 1073741824 ∧ 1073741824 ≤ 1073741824
  omega
 one := by
  unfold longN
  rw [List.pairwise_map]
  refine (List.pairwise_lt_range (n := 127)).imp fun {i j} hij => ?_
  show joinsN (i, i + 1, 1073741824) j (j + 1) = false
  unfold joinsN
  simp; omega
theorem long_wt {a b l : Nat} (h : wtN longN a b = some l) : l = 1073741824 ∧ b ≤ a + 1 := by
 obtain ⟨r, hr, hc⟩ := mem_near.1 ((near_wt long_ok).2 h)
 obtain ⟨i, _, rfl⟩ := List.mem_map.1 hr
 rcases hc with ⟨h1, h2, h3⟩ | ⟨_, h1, h2, h3⟩
 ·simp only at h1 h2 h3; omega
 ·simp only at h1 h2 h3; omega
theorem long_step {a : Nat} (h : a < 127) : wtN longN a (a + 1) = some 1073741824 :=
 (near_wt long_ok).1 (mem_near.2 ⟨(a, a + 1, 1073741824), List.mem_map.2 ⟨a, List.mem_range.2 h, rfl⟩, .inl ⟨rfl, rfl, rfl⟩⟩)
theorem long_way : ∀ k, k < 128 → Way (wtN longN) 0 k (1073741824 * k)
 | 0, _ => .nil 0
 | k + 1, h => .snoc (long_way k (by omega)) (long_step (by omega))
theorem long_min {b d : Nat} (h : Way (wtN longN) 0 b d) : 1073741824 * b ≤ d := by
 induction h with
 | nil => exact Nat.zero_le _
 | snoc _ hl ih => obtain ⟨h1, h2⟩ := long_wt hl; omega
theorem dist_eq {n : Nat} {rs : List RoadN} (h : RoadsOK n rs) {a b : Nat} {o : Option Nat} (ho : IsDist (wtN rs) a b o) : distN n rs a b = o := dist_unique (dist_is h a b) ho
theorem near_one {n : Nat} {rs : List RoadN} (h : RoadsOK n rs) {x : WaveD} {c : Nat} {o : Option Nat} (hx : x.at_ = [0]) (ho : distN n rs 0 c = o) : nearM n rs x c = o := by
 rw [dist_comm h] at ho
 unfold nearM nearO
 rw [hx]
 simp only [List.map_cons, List.map_nil, List.foldl_cons, List.foldl_nil]
 rw [show (0 : Int).toNat = 0 from rfl, ho]; rfl
theorem long_dist {k : Nat} (h : k < 128) : distN 128 longN 0 k = some (1073741824 * k) := by
 exact dist_eq long_ok (And.intro (long_way k h) (fun _ hd => long_min hd))
def longW : WaveD := ⟨0, [0], 5, 1073741824, 9223372036854775807⟩
theorem long_near {k : Nat} (h : k < 128) : nearM 128 longN longW k = some (1073741824 * k) := near_one long_ok rfl (long_dist h)
theorem long_t (d : Nat) : longW.time.toNat + longW.slow.toNat * d = 5 + 1073741824 * d := by simp [longW]
theorem long_fin : longW.fin = 9223372036854775807 := rfl
theorem long_in {k : Nat} (h : k < 8) : arrM 128 longN longW k = some (5 + 1073741824 * (1073741824 * k)) := by
 have h1 := reach_some (long_near (k := k) (by omega)) (Int.le_of_eq long_fin)
 rw [long_t, long_fin] at h1
 exact h1 (by omega)
theorem long_out {k : Nat} (h : 8 ≤ k) (h' : k < 128) : arrM 128 longN longW k = none := by
 have h1 := reach_none (long_near h')
 rw [long_t, long_fin] at h1
 exact h1 (by omega)
theorem long_one : oneE 128 longW = 0 := by kernel_rfl
end Go.Proofs.YtaglfmlgbcmakaaGreatDoor

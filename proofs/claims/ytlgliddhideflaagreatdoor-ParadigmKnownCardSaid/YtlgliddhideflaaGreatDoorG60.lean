/-
  Paradigms (chapter 29), in plain words: forms, rows, stems, endings, labels.
  Paradigms in memory: slices of forms, rows of them.
  slices.IndexFunc and slices.ContainsFunc over records of type api.Form.
  slices.IndexFunc and slices.ContainsFunc over records of type []api.Form.
  paradigm: shape, words, Check, line.
-/
import Derived.Test.YtlgliddhideflaaGreatDoorG21
set_option linter.all false
set_option maxRecDepth 100000
set_option maxHeartbeats 4000000
namespace Go.Proofs.YtlgliddhideflaaGreatDoor
open Go.RowKit Go.Shelf
abbrev Frm := Bool × List Snd
def badRow (m : Nat) (l : List Frm) : Bool := decide (l.length ≠ m) || l.any (fun x => !x.1 && decide (0 < x.2.length))
def shapeE (T : List (List Frm)) : Int :=
 if 64 < T.length ∨ T.any (fun l => decide (16 < l.length)) = true then 12
 else if T.any (badRow (T.headD []).length) = true then 2
 else 0
def wordsE (T : List (List Frm)) : Int := firstE (T.flatten.map (·.2))
theorem firstE_cons (x : List Snd) (r : List (List Snd)) : firstE (x :: r) = if wcheck x ≠ 0 then wcheck x else firstE r := by
 unfold firstE
 rw [List.map_cons, List.find?_cons]
 by_cases h : wcheck x = 0
 ·rw [show (wcheck x != 0) = false by simp [h], if_neg (by simp [h])]
 ·rw [show (wcheck x != 0) = true by simpa using h, if_pos h]; rfl
theorem firstE_append (a b : List (List Snd)) : firstE (a ++ b) = if firstE a ≠ 0 then firstE a else firstE b := by
 induction a with
 | nil => simp [firstE]
 | cons x r ih =>
  rw [List.cons_append, firstE_cons, firstE_cons, ih]
  by_cases h : wcheck x = 0 <;> simp [h]
theorem words_drop {T : List (List Frm)} {k : Nat} {l : List Frm} (h : T[k]? = some l) : wordsE (T.drop k) = if firstE (l.map (·.2)) ≠ 0 then firstE (l.map (·.2)) else wordsE (T.drop (k + 1)) := by
 obtain ⟨hk, hk'⟩ := List.getElem?_eq_some_iff.1 h
 unfold wordsE
 rw [List.drop_eq_getElem_cons hk, hk', List.flatten_cons, List.map_append, firstE_append]
theorem forms_drop {l : List Frm} {k : Nat} {x : Frm} (h : l[k]? = some x) : firstE ((l.drop k).map (·.2)) = if wcheck x.2 ≠ 0 then wcheck x.2 else firstE ((l.drop (k + 1)).map (·.2)) := by
 obtain ⟨hk, hk'⟩ := List.getElem?_eq_some_iff.1 h
 rw [List.drop_eq_getElem_cons hk, hk', List.map_cons, firstE_cons]
theorem firstE_all {ws : List (List Snd)} (h : firstE ws = 0) : ∀ x ∈ ws, wcheck x = 0 := by
 induction ws with
 | nil => intro x hx; cases hx
 | cons y r ih =>
  rw [firstE_cons] at h
  by_cases h0 : wcheck y = 0
  ·rw [if_neg (by simpa using h0)] at h
   intro x hx
   rcases List.mem_cons.1 hx with rfl | hx
   ·exact h0
   ·exact ih h x hx
  ·rw [if_pos h0] at h; exact absurd h h0
theorem wcheck_len {ws : List Snd} (h : wcheck ws = 0) : ws.length ≤ 32 := by
 unfold wcheck at h
 rcases Nat.lt_or_ge 32 ws.length with h3 | h3
 ·rw [if_pos h3] at h; exact absurd h (by decide)
 ·exact h3
theorem any_at {α : Type} {p : α → Bool} {l : List α} {k : Nat} {x : α} (h : l[k]? = some x) (hp : p x = true) : l.any p = true := List.any_eq_true.2 ⟨x, List.mem_of_getElem? h, hp⟩
theorem any_snoc {α : Type} {p : α → Bool} {l : List α} {k : Nat} {x : α} (h : l[k]? = some x) (ha : (l.take k).any p = false) (hp : p x = false) : (l.take (k + 1)).any p = false := by
 rw [take_snoc' l k x h, List.any_append, ha]; simp [hp]
theorem shape_len {T : List (List Frm)} (h : shapeE T = 0) : T.length ≤ 64 ∧ (∀ l ∈ T, l.length ≤ 16) ∧ ∀ l ∈ T, l.length = (T.headD []).length ∧ ∀ x ∈ l, x.1 = false → x.2 = [] := by
 unfold shapeE at h
 by_cases h1 : 64 < T.length ∨ T.any (fun l => decide (16 < l.length)) = true
 ·rw [if_pos h1] at h; exact absurd h (by decide)
 rw [if_neg h1] at h
 by_cases h2 : T.any (badRow (T.headD []).length) = true
 ·rw [if_pos h2] at h; exact absurd h (by decide)
 refine ⟨by omega, fun l hl => ?_, fun l hl => ?_⟩
 ·have h3 : ¬ (16 < l.length) := fun q => h1 (.inr (List.any_eq_true.2 ⟨l, hl, by simpa using q⟩))
  omega
 ·have h3 : badRow (T.headD []).length l = false := by
   cases hb : badRow (T.headD []).length l with
   | false => rfl
   | true => exact absurd (List.any_eq_true.2 ⟨l, hl, hb⟩) h2
  unfold badRow at h3
  rw [Bool.or_eq_false_iff] at h3
  refine ⟨by simpa using h3.1, fun x hx hx1 => ?_⟩
  have h4 := List.any_eq_false.1 h3.2 x hx
  rw [hx1] at h4
  have : x.2.length = 0 := by simpa using h4
  exact List.eq_nil_of_length_eq_zero this
def parE (T : List (List Frm)) : Int := if shapeE T ≠ 0 then shapeE T else wordsE T
def lineE (T : List (List Frm)) (r : Int) : Int := if parE T ≠ 0 then parE T else if r < 0 ∨ (T.length : Int) ≤ r then 3 else 0
def lineR (T : List (List Frm)) (r : Int) : List Frm := T.getD r.toNat []
def cpl : List Snd → List Snd → Nat
 | x :: xs, y :: ys => if x = y then cpl xs ys + 1 else 0
 | _, _ => 0
theorem cpl_le (xs ys : List Snd) : cpl xs ys ≤ xs.length ∧ cpl xs ys ≤ ys.length := by
 induction xs generalizing ys with
 | nil => cases ys <;> simp [cpl]
 | cons x xs ih => cases ys with
  | nil => simp [cpl]
  | cons y ys => by_cases h : x = y <;> simp [cpl, h]; exact ih ys
theorem cpl_comm (xs ys : List Snd) : cpl xs ys = cpl ys xs := by
 induction xs generalizing ys with
 | nil => cases ys <;> simp [cpl]
 | cons x xs ih => cases ys with
  | nil => simp [cpl]
  | cons y ys => by_cases h : x = y <;> simp [cpl, h, ih ys]; intro h'; exact absurd h'.symm h
theorem cpl_take (xs ys : List Snd) (n : Nat) : cpl (xs.take n) ys = min n (cpl xs ys) := by
 induction xs generalizing ys n with
 | nil => cases ys <;> simp [cpl]
 | cons x xs ih => cases ys with
  | nil => cases n <;> simp [cpl]
  | cons y ys => cases n with
   | zero => simp [cpl]
   | succ n => by_cases h : x = y <;> simp [cpl, h, ih ys n]
theorem cpl_self (xs : List Snd) : cpl xs xs = xs.length := by induction xs with
 | nil => rfl
 | cons x xs ih => simp [cpl, ih]
theorem cpl_eq (xs ys : List Snd) (n : Nat) (h : ∀ k, k < n → xs[k]? = ys[k]?) (hx : n ≤ xs.length) (hy : n ≤ ys.length) (hne : n = xs.length ∨ n = ys.length ∨ xs[n]? ≠ ys[n]?) : cpl xs ys = n := by
 induction xs generalizing ys n with
 | nil => have : n = 0 := by simpa using hx
          cases ys <;> simp [cpl, this]
 | cons x xs ih => cases ys with
  | nil => have : n = 0 := by simpa using hy
           simp [cpl, this]
  | cons y ys =>
   cases n with
   | zero =>
    rcases hne with h0 | h0 | h0
    ·simp at h0
    ·simp at h0
    ·have : x ≠ y := by simpa using h0
     simp [cpl, this]
   | succ n =>
    have h0 : x = y := by have := h 0 (by omega); simpa using this
    have := ih ys n (fun k hk => by have := h (k + 1) (by omega); simpa using this) (by simpa using hx) (by simpa using hy) (by
     rcases hne with h1 | h1 | h1
     ·left; simpa using h1
     ·right; left; simpa using h1
     ·right; right; simpa using h1)
    simp [cpl, h0, this]
def stemGo : List Frm → Option (Nat × List Snd) → Option (Nat × List Snd)
 | [], s => s
 | x :: r, s => stemGo r (if x.1 then (match s with | none => some (x.2.length, x.2) | some (n, f) => some (min n (cpl f x.2), f)) else s)
def stemK (l : List Frm) : Option (Nat × List Snd) := stemGo l none
def stemM (l : List Frm) : Option (List Snd) := (stemK l).map fun s => s.2.take s.1
theorem stemGo_le (l : List Frm) : ∀ s : Option (Nat × List Snd), (∀ n f, s = some (n, f) → n ≤ f.length) → ∀ n f, stemGo l s = some (n, f) → n ≤ f.length := by
 induction l with
 | nil => intro s hs n f h; exact hs n f h
 | cons x r ih =>
  intro s hs n f h
  refine ih _ (fun m g hm => ?_) n f h
  cases hx : x.1 with
  | false => rw [hx] at hm; exact hs m g (by simpa using hm)
  | true =>
   rw [hx] at hm
   cases s with
   | none => obtain ⟨rfl, rfl⟩ : x.2.length = m ∧ x.2 = g := by simpa using hm
             exact rr
   | some s =>
    obtain ⟨m', g'⟩ := s
    obtain ⟨rfl, rfl⟩ : min m' (cpl g' x.2) = m ∧ g' = g := by simpa using hm
    have := hs m' g' rfl
    omega
theorem stemK_le {l : List Frm} {n : Nat} {f : List Snd} (h : stemK l = some (n, f)) : n ≤ f.length := stemGo_le l none (fun _ _ h => by cases h) n f h
theorem stemGo_min (l : List Frm) : ∀ (s : Option (Nat × List Snd)), (∀ n f, s = some (n, f) → ∀ n' f', stemGo l s = some (n', f') → n' ≤ n ∧ f' = f) ∧ ∀ n f, stemGo l s = some (n, f) → ∀ x ∈ l, x.1 = true → n ≤ x.2.length := by
 induction l with
 | nil => intro s; exact ⟨fun n f h n' f' h' => by rw [h] at h'; cases h'; exact ⟨rr, rfl⟩, fun _ _ _ x hx => by cases hx⟩
 | cons x r ih =>
  intro s
  refine ⟨fun n f h n' f' h' => ?_, fun n f h y hy hy1 => ?_⟩
  ·subst h
   cases hx : x.1 with
   | false => exact (ih (some (n, f))).1 n f rfl n' f' (by simpa [stemGo, hx] using h')
   | true =>
    have := (ih (some (min n (cpl f x.2), f))).1 _ f rfl n' f' (by simpa [stemGo, hx] using h')
    exact ⟨by omega, this.2⟩
  ·rcases List.mem_cons.1 hy with rfl | hy
   ·cases s with
    | none =>
     have := (ih (some (y.2.length, y.2))).1 _ _ rfl n f (by simpa [stemGo, hy1] using h)
     exact this.1
    | some s =>
     obtain ⟨m, g⟩ := s
     have := (ih (some (min m (cpl g y.2), g))).1 _ _ rfl n f (by simpa [stemGo, hy1] using h)
     have h2 := (cpl_le g y.2).2
     omega
   ·exact (ih _).2 n f (by simpa only [stemGo] using h) y hy hy1
theorem stemK_short {l : List Frm} {n : Nat} {f : List Snd} (h : stemK l = some (n, f)) {x : Frm} (hx : x ∈ l) (h1 : x.1 = true) : n ≤ x.2.length := (stemGo_min l none).2 n f h x hx h1
theorem stemGo_none (l : List Frm) : ∀ s, stemGo l s = none → s = none ∧ ∀ x ∈ l, x.1 = false := by
 induction l with
 | nil => intro s h; exact ⟨h, fun x hx => by cases hx⟩
 | cons x r ih =>
  intro s h
  have h2 := ih _ h
  cases hx : x.1 with
  | false =>
   rw [hx] at h2
   refine ⟨by simpa using h2.1, fun y hy => ?_⟩
   rcases List.mem_cons.1 hy with rfl | hy
   ·exact hx
   ·exact h2.2 y hy
  | true =>
   rw [hx] at h2
   cases s with
   | none => simp at h2
   | some s => simp at h2
theorem stemGo_from (l : List Frm) : ∀ s m f, stemGo l s = some (m, f) → (∃ m', s = some (m', f)) ∨ ∃ x ∈ l, x.1 = true ∧ x.2 = f := by
 induction l with
 | nil => intro s m f h; exact .inl ⟨m, h⟩
 | cons x r ih =>
  intro s m f h
  rcases ih _ m f h with ⟨m', h1⟩ | ⟨y, hy, h1⟩
  ·cases hx : x.1 with
   | false => rw [hx] at h1; exact .inl ⟨m', by simpa using h1⟩
   | true =>
    rw [hx] at h1
    cases s with
    | none => obtain ⟨_, h2⟩ : x.2.length = m' ∧ x.2 = f := by simpa using h1
              exact .inr ⟨x, List.mem_cons_self, hx, h2⟩
    | some s => obtain ⟨a, g⟩ := s
                obtain ⟨_, h2⟩ : min a (cpl g x.2) = m' ∧ g = f := by simpa using h1
                exact .inl ⟨a, by rw [h2]⟩
  ·exact .inr ⟨y, List.mem_cons_of_mem _ hy, h1⟩
theorem stemK_first {l : List Frm} {m : Nat} {f : List Snd} (h : stemK l = some (m, f)) : ∃ x ∈ l, x.1 = true ∧ x.2 = f := by
 rcases stemGo_from l none m f h with ⟨m', h1⟩ | h1
 ·cases h1
 ·exact h1
theorem words_all {T : List (List Frm)} (h : parE T = 0) {l : List Frm} (hl : l ∈ T) {x : Frm} (hx : x ∈ l) : wcheck x.2 = 0 := by
 have h2 : wordsE T = 0 := by
  unfold parE at h
  by_cases h0 : shapeE T = 0
  ·rwa [if_neg (by simpa using h0)] at h
  ·rw [if_pos h0] at h; exact absurd h h0
 exact firstE_all h2 x.2 (List.mem_map.2 ⟨x, List.mem_flatten.2 ⟨l, hl, hx⟩, rfl⟩)
def stemN (l : List Frm) : Int := match stemK l with | none => -1 | some s => s.1
def endsOf (l : List Frm) : List Frm := l.map fun x => if x.1 then (true, x.2.drop (stemN l).toNat) else (false, [])
def labelsM {α : Type} [DecidableEq α] (l : List α) : List Int := l.map fun x => (l.findIdx (fun y => decide (y = x)) : Nat)
def pStemM (T : List (List Frm)) (r : Int) : Int × List Snd :=
 if lineE T r ≠ 0 then (lineE T r, []) else match stemM (lineR T r) with | none => (5, []) | some w => (0, w)
def pEndsM (T : List (List Frm)) (r : Int) : Int × List Frm := if (pStemM T r).1 ≠ 0 then ((pStemM T r).1, []) else (0, endsOf (lineR T r))
def pSameM (T : List (List Frm)) (r : Int) : Int × List Int := if lineE T r ≠ 0 then (lineE T r, []) else (0, labelsM (lineR T r))
def pClassM (T : List (List Frm)) : Int × List Int := if parE T ≠ 0 then (parE T, []) else (0, labelsM (T.map endsOf))
structure FormR where
 h : Bool
 p : Part
def FormR.cells (f : FormR) : List Value := [.bool f.h, f.p.val]
theorem FormR.len (f : FormR) : f.cells.length = 2 := rfl
def formV (f : FormR) : Value := .agg #[.bool f.h, .slice f.p.1 f.p.2.1 f.p.2.2.1]
def FormR.data (f : FormR) : Frm := (f.h, f.p.word)
def IsForms (w : World) (A : Option Addr) (n c : Nat) (l : List Frm) : Prop :=
 ∃ fs : List FormR, fs.map FormR.data = l ∧ Recs FormR.cells 2 w A n c fs ∧ ∀ f ∈ fs, IsWord w f.p.1 f.p.2.1 f.p.2.2.1 f.p.2.2.2
section
variable {w w' : World} {A : Option Addr} {n c : Nat} {l : List Frm}
theorem IsForms.below (h : IsForms w A n c l) {B : Nat} (hb : Below B w w') (hB : w.heap.size ≤ B) : IsForms w' A n c l := by
 obtain ⟨fs, h1, h2, h3⟩ := h
 exact ⟨fs, h1, h2.below hb hB, fun f hf => (h3 f hf).below hb hB⟩
theorem IsForms.len (h : IsForms w A n c l) : l.length = n := by
 obtain ⟨fs, h1, h2, h3⟩ := h
 rw [← h1, List.length_map, h2.2]
theorem IsForms.max (h : IsForms w A n c l) : n ≤ c ∧ c ≤ 9223372036854775807 := by
 obtain ⟨fs, h1, h2, h3⟩ := h
 have h4 := h2.1.2.1; have h5 := h2.1.2.2.1; unfold maxLen at h5; omega
theorem IsForms.nil (w : World) : IsForms w none 0 0 [] := ⟨[], rfl, ⟨Cells.nil _ _, rfl⟩, fun f hf => by cases hf⟩
theorem IsForms.at_ (h : IsForms w A n c l) {k : Nat} (hk : k < n) :
  ∃ b off hs A1 n1 c1 ws, A = some ⟨b, off, none⟩ ∧ b < w.heap.size ∧ w.cell? ⟨b, off + k * 2, none⟩ = some (.bool hs) ∧ w.cell? ⟨b, off + k * 2 + 1, none⟩ = some (.slice A1 n1 c1) ∧ l[k]? = some (hs, ws) ∧ IsWord w A1 n1 c1 ws := by
 have hl := h.len
 obtain ⟨fs, h1, h2, h3⟩ := h
 obtain ⟨f, hf⟩ : ∃ f, fs[k]? = some f := ⟨fs[k]'(by rw [h2.2]; exact hk), List.getElem?_eq_getElem _⟩
 obtain ⟨b, off, hA, hb, hc⟩ := h2.at_ FormR.len (by decide) hf
 obtain ⟨hs, A1, n1, c1, ws⟩ := f
 exact ⟨b, off, hs, A1, n1, c1, ws, hA, hb, hc 0 _ rfl, hc 1 _ rfl, by rw [← h1, List.getElem?_map, hf]; rfl, h3 _ (List.mem_of_getElem? hf)⟩
end
structure RowR where
 A : Option Addr
 n : Nat
 c : Nat
 l : List Frm
def RowR.val (r : RowR) : Value := .slice r.A r.n r.c
def RowR.cells (r : RowR) : List Value := [r.val]
theorem RowR.len (r : RowR) : r.cells.length = 1 := rfl
theorem flatMap_one' : ∀ rs : List RowR, rs.flatMap RowR.cells = rs.map RowR.val
 | [] => rfl
 | r :: rs => by rw [List.flatMap_cons, flatMap_one' rs]; rfl
def IsPar (w : World) (A : Option Addr) (n c : Nat) (T : List (List Frm)) : Prop :=
 ∃ rs : List RowR, rs.map RowR.l = T ∧ Cells w A n c 1 (rs.map RowR.val) ∧ ∀ r ∈ rs, IsForms w r.A r.n r.c r.l
section
variable {w w' : World} {A : Option Addr} {n c : Nat} {T : List (List Frm)}
theorem IsPar.below (h : IsPar w A n c T) {B : Nat} (hb : Below B w w') (hB : w.heap.size ≤ B) : IsPar w' A n c T := by
 obtain ⟨fs, h1, h2, h3⟩ := h
 exact ⟨fs, h1, Cells.below h2 hb hB, fun f hf => (h3 f hf).below hb hB⟩
theorem IsPar.len (h : IsPar w A n c T) : T.length = n := by
 obtain ⟨fs, h1, h2, h3⟩ := h
 have h4 := h2.1
 simp at h4
 rw [← h1, List.length_map, h4]
theorem IsPar.max (h : IsPar w A n c T) : n ≤ c ∧ c ≤ 9223372036854775807 := by
 obtain ⟨fs, h1, h2, h3⟩ := h
 have h4 := h2.2.1; have h5 := h2.2.2.1; unfold maxLen at h5; omega
theorem IsPar.nil (w : World) : IsPar w none 0 0 [] := ⟨[], rfl, Cells.nil _ _, fun f hf => by cases hf⟩
theorem IsPar.at_ (h : IsPar w A n c T) {k : Nat} (hk : k < n) :
  ∃ b off A1 n1 c1 l, A = some ⟨b, off, none⟩ ∧ b < w.heap.size ∧ w.cell? ⟨b, off + k, none⟩ = some (.slice A1 n1 c1) ∧ T[k]? = some l ∧ IsForms w A1 n1 c1 l := by
 have hl := h.len
 obtain ⟨rs, h1, h2, h3⟩ := h
 obtain ⟨b, off, v, hA, hb, hv, hcc⟩ := h2.at1 hk
 rw [List.getElem?_map] at hv
 cases hp : rs[k]? with
 | none => rw [hp] at hv; cases hv
 | some r =>
  rw [hp] at hv
  obtain rfl : r.val = v := by simpa using hv
  exact ⟨b, off, r.A, r.n, r.c, r.l, hA, hb, hcc, by rw [← h1, List.getElem?_map, hp]; rfl, h3 r (List.mem_of_getElem? hp)⟩
end
theorem idxForm_c (A : Option Addr) (n c : Nat) (xs : List FormR) (F : Nat) (lb : Array Value) (p : FormR → Bool) (w : World) (hx : Recs FormR.cells 2 w A n c xs) (hE : Enters Tryz.prog F)
  (hcall : ∀ W, Below w.heap.size w W → ∀ s ∈ xs, Calls Tryz.prog F (#[formV s] ++ lb) W fun e W' => e = .returned (.bool (p s)) ∧ Below W.heap.size W W') :
  Calls Tryz.prog 188 #[.slice A n c, .func (.func F) #[] lb] w fun e w' => e = .returned (.int .i64 (idxM p xs)) ∧ Below w.heap.size w w' := by
 have hm : n ≤ 9223372036854775807 := by have h1 := hx.1.2.1; have h2 := hx.1.2.2.1; unfold maxLen at h2; omega
 have HX := hI hx; clear hx
 have HC := hI hcall; clear hcall
 unfold Enters at hE
 go_enter Tryz.func188, Tryz.ntmps188
 go_wp2
 go_loopw [5, 8] (fun _ i wr => ∃ k : Nat, k ≤ n ∧ i = .int .i64 k ∧ Hid ((xs.take k).any p = false) ∧ Below w.heap.size w wr) (fun _ i _ => n - (intOf i).toNat)
 case atStart => exact ⟨0, Nat.zero_le _, rfl, by simp [Hid], Below.refl _ _⟩
 case round =>
  obtain ⟨k, hk, rfl, HA, hB⟩ := hrel
  by_cases hlt : k < n
  ·obtain ⟨s, hxk⟩ : ∃ s, xs[k]? = some s := ⟨xs[k]'(by rw [HX.out.2]; exact hlt), List.getElem?_eq_getElem _⟩
   obtain ⟨b, off, rfl, hb, hcs⟩ := (HX.out.below hB rr).at_ FormR.len (by decide) hxk
   have hc0 := hcs 0 _ rfl
   have hc1 := hcs 1 _ rfl
   simp only [Nat.add_zero, ← Nat.add_assoc] at hc0 hc1
   clear hcs
   have HCALL := hI (HC.out wr hB s (List.mem_of_getElem? hxk))
   have HK := hI hxk; clear hxk
   by_cases hp : p s = true
   ·have hr := idxM_some p xs k s HK.out HA.out hp
    have HR := hI hr; clear hr
    have HP := hI hp; clear hp
    go_wp2_with fail
    refine HCALL.out.mono ?_
    rintro e w1 ⟨rfl, hb1⟩
    rw [HP.out]
    have hB1 := hB.trans (hb1.mono hB.size)
    clear hb1
    go_wp2
    go_ret
    exact ⟨by rw [HR.out]; rfl, hB1⟩
   ·have hp' : p s = false := by simpa using hp
    have HP := hI hp'; clear hp hp'
    go_wp2_with fail
    refine HCALL.out.mono ?_
    rintro e w1 ⟨rfl, hb1⟩
    rw [HP.out]
    have hB1 := hB.trans (hb1.mono hB.size)
    clear hb1
    go_wp2
    go_roundw
    case rel => exact ⟨k + 1, by omega, by go_num, by rw [take_snoc' xs k _ HK.out, List.any_append, HA.out]; simp [HP.out, Hid], hB1⟩
    case measure => simp [intOf]; omega
  ·obtain rfl : k = n := by omega
   have hr : idxM p xs = -1 := by
    have := HA.out
    rw [List.take_of_length_le (by rw [HX.out.2]; exact rr)] at this
    exact idxM_none p xs this
   have HR := hI hr; clear hr
   go_wp2
   go_ret
   exact ⟨by rw [HR.out]; rfl, hB⟩
theorem anyForm_c (A : Option Addr) (n c : Nat) (xs : List FormR) (F : Nat) (lb : Array Value) (p : FormR → Bool) (w : World) (hx : Recs FormR.cells 2 w A n c xs) (hE : Enters Tryz.prog F)
  (hcall : ∀ W, Below w.heap.size w W → ∀ s ∈ xs, Calls Tryz.prog F (#[formV s] ++ lb) W fun e W' => e = .returned (.bool (p s)) ∧ Below W.heap.size W W') :
  Calls Tryz.prog 155 #[.slice A n c, .func (.func F) #[] lb] w fun e w' => e = .returned (.bool (xs.any p)) ∧ Below w.heap.size w w' := by
 have hcon := idxForm_c A n c xs F lb p w hx hE hcall
 have H := hI (idxM_any p xs)
 clear hx hcall hE
 go_enter Tryz.func155, Tryz.ntmps155
 go_wp2_with (go_at_call 188; refine hcon.mono ?_; rintro e w1 ⟨rfl, hb1⟩)
 go_ret
 refine ⟨?_, hb1⟩
 show Ending.returned (.bool (decide (0 ≤ idxM p xs))) = _
 rw [H.out]
theorem idxRow_c (A : Option Addr) (n c : Nat) (xs : List RowR) (F : Nat) (lb : Array Value) (p : RowR → Bool) (w : World) (hx : Recs RowR.cells 1 w A n c xs) (hE : Enters Tryz.prog F)
  (hcall : ∀ W, Below w.heap.size w W → ∀ s ∈ xs, Calls Tryz.prog F (#[RowR.val s] ++ lb) W fun e W' => e = .returned (.bool (p s)) ∧ Below W.heap.size W W') :
  Calls Tryz.prog 187 #[.slice A n c, .func (.func F) #[] lb] w fun e w' => e = .returned (.int .i64 (idxM p xs)) ∧ Below w.heap.size w w' := by
 have hm : n ≤ 9223372036854775807 := by have h1 := hx.1.2.1; have h2 := hx.1.2.2.1; unfold maxLen at h2; omega
 have HX := hI hx; clear hx
 have HC := hI hcall; clear hcall
 unfold Enters at hE
 go_enter Tryz.func187, Tryz.ntmps187
 go_wp2
 go_loopw [5, 8] (fun _ i wr => ∃ k : Nat, k ≤ n ∧ i = .int .i64 k ∧ Hid ((xs.take k).any p = false) ∧ Below w.heap.size w wr) (fun _ i _ => n - (intOf i).toNat)
 case atStart => exact ⟨0, Nat.zero_le _, rfl, by simp [Hid], Below.refl _ _⟩
 case round =>
  obtain ⟨k, hk, rfl, HA, hB⟩ := hrel
  by_cases hlt : k < n
  ·obtain ⟨s, hxk⟩ : ∃ s, xs[k]? = some s := ⟨xs[k]'(by rw [HX.out.2]; exact hlt), List.getElem?_eq_getElem _⟩
   obtain ⟨b, off, rfl, hb, hcs⟩ := (HX.out.below hB rr).at_ RowR.len (by decide) hxk
   have hc0 := hcs 0 _ rfl
   simp only [Nat.add_zero, ← Nat.add_assoc, Nat.mul_one] at hc0
   clear hcs
   have HCALL := hI (HC.out wr hB s (List.mem_of_getElem? hxk))
   have HK := hI hxk; clear hxk
   by_cases hp : p s = true
   ·have hr := idxM_some p xs k s HK.out HA.out hp
    have HR := hI hr; clear hr
    have HP := hI hp; clear hp
    go_wp2_with fail
    refine HCALL.out.mono ?_
    rintro e w1 ⟨rfl, hb1⟩
    rw [HP.out]
    have hB1 := hB.trans (hb1.mono hB.size)
    clear hb1
    go_wp2
    go_ret
    exact ⟨by rw [HR.out]; rfl, hB1⟩
   ·have hp' : p s = false := by simpa using hp
    have HP := hI hp'; clear hp hp'
    go_wp2_with fail
    refine HCALL.out.mono ?_
    rintro e w1 ⟨rfl, hb1⟩
    rw [HP.out]
    have hB1 := hB.trans (hb1.mono hB.size)
    clear hb1
    go_wp2
    go_roundw
    case rel => exact ⟨k + 1, by omega, by go_num, by rw [take_snoc' xs k _ HK.out, List.any_append, HA.out]; simp [HP.out, Hid], hB1⟩
    case measure => simp [intOf]; omega
  ·obtain rfl : k = n := by omega
   have hr : idxM p xs = -1 := by
    have := HA.out
    rw [List.take_of_length_le (by rw [HX.out.2]; exact rr)] at this
    exact idxM_none p xs this
   have HR := hI hr; clear hr
   go_wp2
   go_ret
   exact ⟨by rw [HR.out]; rfl, hB⟩
theorem anyRow_c (A : Option Addr) (n c : Nat) (xs : List RowR) (F : Nat) (lb : Array Value) (p : RowR → Bool) (w : World) (hx : Recs RowR.cells 1 w A n c xs) (hE : Enters Tryz.prog F)
  (hcall : ∀ W, Below w.heap.size w W → ∀ s ∈ xs, Calls Tryz.prog F (#[RowR.val s] ++ lb) W fun e W' => e = .returned (.bool (p s)) ∧ Below W.heap.size W W') :
  Calls Tryz.prog 153 #[.slice A n c, .func (.func F) #[] lb] w fun e w' => e = .returned (.bool (xs.any p)) ∧ Below w.heap.size w w' := by
 have hcon := idxRow_c A n c xs F lb p w hx hE hcall
 have H := hI (idxM_any p xs)
 clear hx hcall hE
 go_enter Tryz.func153, Tryz.ntmps153
 go_wp2_with (go_at_call 187; refine hcon.mono ?_; rintro e w1 ⟨rfl, hb1⟩)
 go_ret
 refine ⟨?_, hb1⟩
 show Ending.returned (.bool (decide (0 ≤ idxM p xs))) = _
 rw [H.out]
theorem pShape1_c (A : Option Addr) (n c : Nat) (hn : n ≤ 9223372036854775807) (w : World) : Calls Tryz.prog 154 #[.slice A n c] w fun e w' => e = .returned (.bool (decide (16 < n))) ∧ Below w.heap.size w w' := by
 have hb : decide ((16 : Int) < (n : Int)) = decide (16 < n) := decide_eq_decide.2 (by omega)
 have HB := hI hb; clear hb
 go_enter Tryz.func154, Tryz.ntmps154
 go_wp2
 go_ret
 exact ⟨by show Ending.returned (.bool (decide ((16 : Int) < (n : Int)))) = _; rw [HB.out], Below.refl _ _⟩
theorem pShape2_c (f : FormR) (w : World) (hw : IsWord w f.p.1 f.p.2.1 f.p.2.2.1 f.p.2.2.2) : Calls Tryz.prog 156 #[formV f] w fun e w' => e = .returned (.bool (!f.h && decide (0 < f.data.2.length))) ∧ Below w.heap.size w w' := by
 obtain ⟨h, A, n, c, ws⟩ := f
 have hl : ws.length = n := hw.len
 have hm := hw.max
 clear hw
 show Calls Tryz.prog 156 #[.agg #[.bool h, .slice A n c]] w fun e w' => e = .returned (.bool (!h && decide (0 < ws.length))) ∧ Below w.heap.size w w'
 rw [hl]
 clear hl
 go_enter Tryz.func156, Tryz.ntmps156
 cases h
 ·by_cases h1 : 0 < n
  ·have h2 : (0 : Int) < (n : Int) := by omega
   go_wp2
   go_ret
   exact ⟨by simp [h1], bel⟩
  ·have h2 : ¬ (0 : Int) < (n : Int) := by omega
   go_wp2
   go_ret
   exact ⟨by simp [h1], bel⟩
 ·go_wp2
  go_ret
  exact ⟨rfl, bel⟩
theorem any_rows (rs : List RowR) (w : World) (h : ∀ r ∈ rs, IsForms w r.A r.n r.c r.l) : rs.any (fun r => decide (16 < r.n)) = (rs.map RowR.l).any (fun l => decide (16 < l.length)) := by
 rw [List.any_map]
 induction rs with
 | nil => rfl
 | cons r rs ih =>
  rw [List.any_cons, List.any_cons, ih fun x hx => h x (by simp [hx])]
  have := (h r (by simp)).len
  simp [Function.comp_def, this]
theorem pShape_c (A : Option Addr) (n c : Nat) (T : List (List Frm)) (w : World) (hx : IsPar w A n c T) :
  Calls Tryz.prog 100 #[.slice A n c] w fun e w' => e = .returned (.int .i64 (shapeE T)) ∧ Below w.heap.size w w' := by
 have hm := hx.max
 have hl := hx.len
 obtain ⟨rs, hrs, hcs, hfs⟩ := hx
 have hany := anyRow_c A n c rs 154 #[] (fun r => decide (16 < r.n)) w ⟨by rw [show rs.flatMap RowR.cells = rs.map RowR.val from flatMap_one' rs]; exact hcs, by have := hcs.1; simpa using this⟩ (enters_of Tryz.func154 (by kernel_rfl) rfl) (fun W hB s hs => pShape1_c s.A s.n s.c (by have := (hfs s hs).max; omega) W)
 rw [any_rows rs w hfs, hrs] at hany
 have HA := hI hany; clear hany
 have HX : Hid (IsPar w A n c T) := ⟨rs, hrs, hcs, hfs⟩
 clear hrs hcs hfs
 obtain ⟨b, hb⟩ : ∃ b, b = T.any (fun l => decide (16 < l.length)) := ⟨_, rfl⟩
 rw [← hb] at HA
 have HM : Hid (shapeE T = if 64 < n ∨ b = true then 12 else if T.any (badRow (T.headD []).length) = true then 2 else 0) := by show _ = _; unfold shapeE; rw [← hb, hl]
 have HL := hI hl
 clear hb hl
 go_enter Tryz.func100, Tryz.ntmps100
 by_cases h64 : 64 < n
 ·have h1 : (64 : Int) < (n : Int) := by omega
  have HR : Hid (shapeE T = 12) := by show _ = _; rw [HM.out, if_pos (.inl h64)]
  go_wp2
  go_ret
  exact ⟨by rw [HR.out]; rfl, Below.refl _ _⟩
 have h1 : ¬ (64 : Int) < (n : Int) := by omega
 go_wp2_with fail
 refine HA.out.mono ?_
 rintro e w1 ⟨rfl, hB1⟩
 have HB1 := hI hB1; clear hB1
 cases b
 case true =>
  have HR : Hid (shapeE T = 12) := by show _ = _; rw [HM.out, if_pos (.inr rfl)]
  go_wp2
  go_ret
  exact ⟨by rw [HR.out]; rfl, HB1.out⟩
 have HR : Hid (shapeE T = if T.any (badRow (T.headD []).length) = true then 2 else 0) := by show _ = _; rw [HM.out, if_neg (by simp [h64])]
 clear HM HA
 go_wp2_with fail
 go_loopw [14] (fun vi wr => ∃ k : Nat, vi = .int .i64 k ∧ k ≤ n ∧ Hid ((T.take k).any (badRow (T.headD []).length) = false) ∧ Below w1.heap.size w1 wr) (fun vi _ => n - (intOf vi).toNat)
 case atStart => exact ⟨0, rfl, Nat.zero_le _, rfl, Below.refl _ _⟩
 case round =>
  obtain ⟨k, rfl, hk, hall, hB⟩ := hrel
  have hBB := HB1.out.trans (hB.mono HB1.out.size)
  by_cases hlt : k < n
  ·have hk1 : (k : Int) < (n : Int) := by omega
   have hn0 : (0 : Int) < (n : Int) := by omega
   obtain ⟨b, off, A1, n1, c1, l, rfl, hbl, hc1, hlk, hfl⟩ := (HX.out.below hBB rr).at_ hlt
   obtain ⟨b', off', A0, m0, c0, l0, he, _, hc0, hl0, hf0⟩ := (HX.out.below hBB rr).at_ (k := 0) (by omega)
   obtain ⟨rfl, rfl⟩ : b = b' ∧ off = off' := by simpa using he
   clear he
   have hm1 := hfl.max
   have hm0 := hf0.max
   have HBAD : Hid (badRow (T.headD []).length l = (decide (n1 ≠ m0) || l.any (fun x => !x.1 && decide (0 < x.2.length)))) := by
    show _ = _
    unfold badRow
    rw [hfl.len]
    have : (T.headD []).length = m0 := by
     rw [← hf0.len]
     cases hT : T with
     | nil => rw [hT] at hl0; cases hl0
     | cons x r => rw [hT] at hl0; simp at hl0; rw [hl0]; rfl
    rw [this]
   have HLK := hI hlk; clear hlk
   obtain ⟨fs, hfs1, hfs2, hfs3⟩ := hfl
   have hany := anyForm_c A1 n1 c1 fs 156 #[] (fun f => !f.h && decide (0 < f.data.2.length)) wr hfs2 (enters_of Tryz.func156 (by kernel_rfl) rfl) (fun W hB s hs => pShape2_c s W ((hfs3 s hs).below hB rr))
   rw [show fs.any (fun f => !f.h && decide (0 < f.data.2.length)) = l.any (fun x => !x.1 && decide (0 < x.2.length)) by rw [← hfs1, List.any_map]; rfl] at hany
   have HA := hI hany
   clear hany hfs1 hfs2 hfs3 hf0 hl0
   have hc0' : wr.cell? ⟨b, off, none⟩ = some (.slice A0 m0 c0) := hc0
   by_cases hne : n1 = m0
   ·subst hne
    have hne1 : ((n1 : Int) != (n1 : Int)) = false := by simp
    obtain ⟨d, hd⟩ : ∃ d, d = l.any (fun x => !x.1 && decide (0 < x.2.length)) := ⟨_, rfl⟩
    rw [← hd] at HA HBAD
    clear hd
    go_wp2_with fail
    refine HA.out.mono ?_
    rintro e w2 ⟨rfl, hb2⟩
    have hB2 := hB.trans (hb2.mono hB.size)
    clear hb2 hc0 hc0' hc1 HA
    cases d
    ·have HN : Hid ((T.take (k + 1)).any (badRow (T.headD []).length) = false) := any_snoc HLK.out hall.out (by rw [HBAD.out]; simp)
     go_wp2
     go_roundw
     case rel => exact ⟨k + 1, by go_num, by omega, HN.out, hB2⟩
     case measure => simp [intOf]; omega
    ·have HF : Hid (shapeE T = 2) := by show _ = _; rw [HR.out, if_pos (any_at HLK.out (by rw [HBAD.out]; simp))]
     go_wp2
     go_ret
     exact ⟨by rw [HF.out]; rfl, HB1.out.trans (hB2.mono HB1.out.size)⟩
   ·have hne1 : ((n1 : Int) != (m0 : Int)) = true := by simp; omega
    have HF : Hid (shapeE T = 2) := by show _ = _; rw [HR.out, if_pos (any_at HLK.out (by rw [HBAD.out]; simp [hne]))]
    go_wp2
    go_ret
    exact ⟨by rw [HF.out]; rfl, hBB⟩
  ·obtain rfl : k = n := by omega
   have HF : Hid (shapeE T = 0) := by
    have := hall.out
    rw [List.take_of_length_le (by rw [HL.out]; exact rr)] at this
    show _ = _
    rw [HR.out, if_neg (by rw [this]; decide)]
   go_wp2
   go_ret
   exact ⟨by rw [HF.out]; rfl, hBB⟩
theorem pWords_c (A : Option Addr) (n c : Nat) (T : List (List Frm)) (w : World) (hx : IsPar w A n c T) :
  Calls Tryz.prog 101 #[.slice A n c] w fun e w' => e = .returned (.int .i64 (wordsE T)) ∧ Below w.heap.size w w' := by
 have hm := hx.max
 have HX := hI hx; clear hx
 go_enter Tryz.func101, Tryz.ntmps101
 go_wp2_with fail
 go_loopw [10] (fun vi wr => ∃ k : Nat, vi = .int .i64 k ∧ k ≤ n ∧ Hid (wordsE T = wordsE (T.drop k)) ∧ Below w.heap.size w wr) (fun vi _ => n - (intOf vi).toNat)
 case atStart => exact ⟨0, rfl, Nat.zero_le _, rfl, Below.refl _ _⟩
 case round =>
  obtain ⟨k, rfl, hk, hrest, hB⟩ := hrel
  by_cases hlt : k < n
  ·have hk1 : (k : Int) < (n : Int) := by omega
   obtain ⟨b, off, A1, n1, c1, l, rfl, hbl, hc1, hlk, hfl⟩ := (HX.out.below hB rr).at_ hlt
   have hm1 := hfl.max
   have HD := hI (words_drop hlk)
   have HF := hI hfl; clear hfl hlk
   obtain ⟨w0, hw0⟩ : ∃ w0, w0 = wr := ⟨_, rfl⟩
   rw [← hw0] at HF hB
   have hBs := hB.size
   go_wp2_with fail
   go_loopw [16] (fun vj wr => ∃ j : Nat, vj = .int .i64 j ∧ j ≤ n1 ∧ Hid (firstE (l.map (·.2)) = firstE ((l.drop j).map (·.2))) ∧ Below w0.heap.size w0 wr) (fun vj _ => n1 - (intOf vj).toNat)
   case atStart => exact ⟨0, rfl, Nat.zero_le _, rfl, by rw [hw0]; exact Below.refl _ _⟩
   case round =>
    obtain ⟨j, rfl, hj, hrest2, hB2⟩ := hrel
    by_cases hltj : j < n1
    ·have hj1 : (j : Int) < (n1 : Int) := by omega
     obtain ⟨b2, off2, hs, A2, n2, c2, ws, rfl, hb2, hd0, hd1, hlj, hwj⟩ := (HF.out.below hB2 rr).at_ hltj
     have HW := hI hwj; clear hwj
     have HDJ := hI (forms_drop hlj); clear hlj
     go_wp2_with fail
     have hb9 : Below wr.heap.size wr (wr.alloc (.cells #[.bool hs, .slice A2 n2 c2] 57)) := bel
     clear hd0 hd1
     generalize (wr.alloc (.cells #[.bool hs, .slice A2 n2 c2] 57)) = V1 at *
     refine (wCheck_c A2 n2 c2 ws V1 (HW.out.below hb9 rr)).mono ?_
     obtain ⟨er, her⟩ : ∃ er, er = wcheck ws := ⟨_, rfl⟩
     rw [← her]
     rw [← her] at HDJ
     clear her
     rintro e w3 ⟨rfl, hb3⟩
     have hB3 : Below w0.heap.size w0 w3 := hB2.trans ((hb9.trans (hb3.mono hb9.size)).mono hB2.size)
     clear hb3 hb9
     by_cases h0 : er = 0
     ·have h1 : (er != 0) = false := by simpa using h0
      have HN : Hid (firstE (l.map (·.2)) = firstE ((l.drop (j + 1)).map (·.2))) := by show _ = _; rw [hrest2.out, HDJ.out, if_neg (by simpa using h0)]
      clear h0
      go_wp2
      go_roundw
      case rel => exact ⟨j + 1, by go_num, by omega, HN.out, hB3⟩
      case measure => simp [intOf]; omega
     ·have h1 : (er != 0) = true := by simpa using h0
      have HN : Hid (wordsE T = er) := by
       have h2 : firstE (l.map (·.2)) = er := by rw [hrest2.out, HDJ.out, if_pos h0]
       show _ = _
       rw [hrest.out, HD.out, h2, if_pos h0]
      clear h0
      go_wp2
      go_ret
      exact ⟨by rw [HN.out]; rfl, hB.trans (hB3.mono hBs)⟩
    ·have hj1 : ¬ (j : Int) < (n1 : Int) := by omega
     have HN : Hid (wordsE T = wordsE (T.drop (k + 1))) := by
      have h2 : firstE (l.map (·.2)) = 0 := by rw [hrest2.out, List.drop_eq_nil_of_le (by rw [HF.out.len]; omega)]; rfl
      show _ = _
      rw [hrest.out, HD.out, h2, if_neg (by decide)]
     go_wp2
     go_roundw
     case rel => exact ⟨k + 1, by go_num, by omega, HN.out, hB.trans (hB2.mono hBs)⟩
     case measure => simp [intOf]; omega
  ·have hk1 : ¬ (k : Int) < (n : Int) := by omega
   have HN : Hid (wordsE T = 0) := by show _ = _; rw [hrest.out, List.drop_eq_nil_of_le (by rw [HX.out.len]; omega)]; rfl
   go_wp2
   go_ret
   exact ⟨by rw [HN.out]; rfl, hB⟩
theorem pCheck_c (A : Option Addr) (n c : Nat) (T : List (List Frm)) (w : World) (hx : IsPar w A n c T) :
  Calls Tryz.prog 37 #[.slice A n c] w fun e w' => e = .returned (.int .i64 (parE T)) ∧ Below w.heap.size w w' := by
 have HX := hI hx; clear hx
 go_enter Tryz.func37, Tryz.ntmps37
 go_wp2_with fail
 refine (pShape_c A n c T w HX.out).mono ?_
 obtain ⟨er, her⟩ : ∃ er, er = shapeE T := ⟨_, rfl⟩
 rw [← her]
 rintro e w1 ⟨rfl, hB1⟩
 by_cases h0 : er = 0
 ·have h1 : (er != 0) = false := by simpa using h0
  have HM : Hid (parE T = wordsE T) := by show _ = _; unfold parE; rw [← her, if_neg (by simpa using h0)]
  clear h0 her
  go_wp2_with fail
  refine (pWords_c A n c T w1 (HX.out.below hB1 rr)).mono ?_
  rintro e w2 ⟨rfl, hb2⟩
  go_wp2
  go_ret
  exact ⟨by rw [HM.out]; rfl, hB1.trans (hb2.mono hB1.size)⟩
 ·have h1 : (er != 0) = true := by simpa using h0
  have HM : Hid (parE T = er) := by show _ = _; unfold parE; rw [← her, if_pos h0]
  clear h0 her
  go_wp2
  go_ret
  exact ⟨by rw [HM.out]; rfl, hB1⟩
def RetLine (w : World) (T : List (List Frm)) (r : Int) (e : Ending) (w' : World) : Prop :=
 ((lineE T r ≠ 0 ∧ e = .returned (.tuple #[.slice none 0 0, .int .i64 (lineE T r)])) ∨
  (lineE T r = 0 ∧ ∃ A n c, e = .returned (.tuple #[.slice A n c, .int .i64 0]) ∧ IsForms w' A n c (lineR T r))) ∧ Below w.heap.size w w'
theorem pLine_c (A : Option Addr) (n c : Nat) (T : List (List Frm)) (r : Int) (w : World) (hx : IsPar w A n c T) (hr : -9223372036854775808 ≤ r ∧ r ≤ 9223372036854775807) :
  Calls Tryz.prog 88 #[.slice A n c, .int .i64 r] w (RetLine w T r) := by
 have hm := hx.max
 have HX := hI hx; clear hx
 go_enter Tryz.func88, Tryz.ntmps88
 go_wp2_with fail
 refine (pCheck_c A n c T w HX.out).mono ?_
 obtain ⟨er, her⟩ : ∃ er, er = parE T := ⟨_, rfl⟩
 rw [← her]
 rintro e w1 ⟨rfl, hB1⟩
 have HM : Hid (lineE T r = if er ≠ 0 then er else if r < 0 ∨ (n : Int) ≤ r then 3 else 0) := by show _ = _; unfold lineE; rw [← her, HX.out.len]
 clear her
 by_cases h0 : er = 0
 case neg =>
  have h1 : (er != 0) = true := by simpa using h0
  have HR : Hid (lineE T r = er) := by show _ = _; rw [HM.out, if_pos h0]
  have HN : Hid (er ≠ 0) := h0
  clear h0
  go_wp2
  go_ret2
  exact ⟨.inl ⟨by rw [HR.out]; exact HN.out, by rw [HR.out]; rfl⟩, hB1⟩
 have h1 : (er != 0) = false := by simpa using h0
 replace HM : Hid (lineE T r = if r < 0 ∨ (n : Int) ≤ r then 3 else 0) := by show _ = _; rw [HM.out, if_neg (by simpa using h0)]
 clear h0
 by_cases h2 : r < 0
 ·have HR : Hid (lineE T r = 3) := by show _ = _; rw [HM.out, if_pos (.inl h2)]
  go_wp2
  go_ret2
  exact ⟨.inl ⟨by rw [HR.out]; decide, by rw [HR.out]; rfl⟩, hB1⟩
 by_cases h3 : (n : Int) ≤ r
 ·have HR : Hid (lineE T r = 3) := by show _ = _; rw [HM.out, if_pos (.inr h3)]
  go_wp2
  go_ret2
  exact ⟨.inl ⟨by rw [HR.out]; decide, by rw [HR.out]; rfl⟩, hB1⟩
 have HR : Hid (lineE T r = 0) := by show _ = _; rw [HM.out, if_neg (by omega)]
 obtain ⟨k, rfl⟩ : ∃ k : Nat, r = k := ⟨r.toNat, by omega⟩
 have hk : k < n := by omega
 have hk1 : (k : Int) < (n : Int) := by omega
 obtain ⟨b, off, A1, n1, c1, l, rfl, hbl, hc1, hlk, hfl⟩ := (HX.out.below hB1 rr).at_ hk
 have HF : Hid (IsForms w1 A1 n1 c1 (lineR T (k : Int))) := by show IsForms _ _ _ _ _; unfold lineR; rw [Int.toNat_natCast, List.getD_eq_getElem?_getD, hlk]; exact hfl
 clear hfl hlk
 go_wp2
 go_ret2
 exact ⟨.inr ⟨HR.out, A1, n1, c1, rfl, HF.out⟩, hB1⟩
end Go.Proofs.YtlgliddhideflaaGreatDoor

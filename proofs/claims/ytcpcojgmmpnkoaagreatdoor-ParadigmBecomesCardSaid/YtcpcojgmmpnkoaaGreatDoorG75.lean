/-
  Paradigms of numbers (chapter 29), in plain words: they are valid; what follows the stem; the longest stem.
  Labels, and paradigms that are built or derived (chapter 29), in plain words.
  Three rows of one's own that grow side by side: rows of forms, words, rows of forms.
  ablautlaw29.labelled, of labels.
-/
import Derived.Test.YtcpcojgmmpnkoaaGreatDoorG70
import Derived.Test.YtcpcojgmmpnkoaaGreatDoorG66
import Derived.Test.YtcpcojgmmpnkoaaGreatDoorG18
set_option linter.all false
set_option maxRecDepth 100000
set_option maxHeartbeats 4000000
namespace Go.Proofs.YtcpcojgmmpnkoaaGreatDoor
open Go.RowKit Go.Shelf
def oneS (k : Nat) : Snd := if k = 1 then s29B else if k = 2 then sA else sP
def oneM (n : Nat) : Frm := if n = 255 then (false, []) else (true, (List.range (n % 4)).map fun k => oneS (n / 2 ^ (2 + 2 * k) % 4))
def rowM (x : Nat) : List Frm := (List.range 4).map fun k => oneM (x / 2 ^ (8 * k) % 256)
def madeM (l : List Nat) : List (List Frm) := (l.take 8).map rowM
theorem oneS_ok (k : Nat) : wvalid (oneS k).1 (oneS k).2 = true := by
 unfold oneS
 split
 ·kernel_rfl
 ·split <;> kernel_rfl
theorem wcheck_ok {ws : List Snd} (hl : ws.length ≤ 32) (h : ∀ s ∈ ws, wvalid s.1 s.2 = true) : wcheck ws = 0 := by
 unfold wcheck
 rw [if_neg (by omega), if_pos (List.all_eq_true.2 fun s hs => h s hs)]
theorem oneM_snds (n : Nat) : ∀ s ∈ (oneM n).2, wvalid s.1 s.2 = true := by
 unfold oneM
 split
 ·intro s hs; cases hs
 ·intro s hs
  obtain ⟨k, _, rfl⟩ := List.mem_map.1 hs
  exact oneS_ok _
theorem oneM_len (n : Nat) : (oneM n).2.length ≤ 3 := by
 unfold oneM
 split
 ·simp
 ·simp; omega
theorem oneM_none (n : Nat) (h : (oneM n).1 = false) : (oneM n).2 = [] := by
 unfold oneM at h ⊢
 split
 ·rfl
 ·rename_i h1; rw [if_neg h1] at h; cases h
theorem rowM_len (x : Nat) : (rowM x).length = 4 := by simp [rowM]
theorem made_row {l : List Nat} {r : List Frm} (h : r ∈ madeM l) : ∃ x, r = rowM x := by
 obtain ⟨x, _, rfl⟩ := List.mem_map.1 h
 exact ⟨x, rfl⟩
theorem row_form {x : Nat} {f : Frm} (h : f ∈ rowM x) : ∃ n, f = oneM n := by
 obtain ⟨k, _, rfl⟩ := List.mem_map.1 h
 exact ⟨_, rfl⟩
theorem made_len (l : List Nat) : (madeM l).length ≤ 8 := by simp [madeM]; omega
def Row4 (b : Nat) (r : List Frm) : Prop := r.length = 4 ∧ ∀ f ∈ r, (f.1 = false → f.2 = []) ∧ f.2.length ≤ b ∧ ∀ s ∈ f.2, wvalid s.1 s.2 = true
theorem row_ok (x : Nat) : Row4 3 (rowM x) := ⟨rowM_len x, fun f hf => by
 obtain ⟨n, rfl⟩ := row_form hf
 exact ⟨oneM_none n, oneM_len n, oneM_snds n⟩⟩
theorem made_rows (l : List Nat) : ∀ r ∈ madeM l, Row4 3 r := fun r hr => by
 obtain ⟨x, rfl⟩ := made_row hr
 exact row_ok x
theorem firstE_good {ws : List (List Snd)} (h : ∀ x ∈ ws, wcheck x = 0) : firstE ws = 0 := by
 induction ws with
 | nil => rfl
 | cons x r ih => rw [firstE_cons, if_neg (by simp [h x List.mem_cons_self])]; exact ih fun y hy => h y (List.mem_cons_of_mem _ hy)
theorem shape_zero {T : List (List Frm)} {m : Nat} (hl : T.length ≤ 64) (hm : m ≤ 16) (h : ∀ r ∈ T, r.length = m ∧ ∀ f ∈ r, f.1 = false → f.2 = []) : shapeE T = 0 := by
 unfold shapeE
 have h1 : T.any (fun l => decide (16 < l.length)) = false := List.any_eq_false.2 fun r hr => by simp; have := (h r hr).1; omega
 rw [if_neg (by rw [h1]; simp; omega)]
 have h2 : T.any (badRow (T.headD []).length) = false := List.any_eq_false.2 fun r hr => by
  have h3 : (T.headD []).length = m := by
   cases T with
   | nil => cases hr
   | cons x t => exact (h x List.mem_cons_self).1
  unfold badRow
  rw [h3, (h r hr).1]
  have h4 : r.any (fun x => !x.1 && decide (0 < x.2.length)) = false := List.any_eq_false.2 fun f hf => by
   cases hf1 : f.1 with
   | true => simp
   | false => simp [(h r hr).2 f hf hf1]
  simp [h4]
 rw [h2]; rfl
theorem par_zero {T : List (List Frm)} {b : Nat} (hb : b ≤ 32) (hl : T.length ≤ 64) (h : ∀ r ∈ T, Row4 b r) : parE T = 0 := by
 have h1 : shapeE T = 0 := shape_zero (m := 4) hl (by omega) fun r hr => ⟨(h r hr).1, fun f hf => ((h r hr).2 f hf).1⟩
 have h2 : wordsE T = 0 := firstE_good fun x hx => by
  obtain ⟨f, hf, rfl⟩ := List.mem_map.1 hx
  obtain ⟨r, hr, hf⟩ := List.mem_flatten.1 hf
  have h3 := ((h r hr).2 f hf).2
  exact wcheck_ok (by omega) h3.2
 unfold parE
 rw [h1]; simpa using h2
theorem line_zero {T : List (List Frm)} (h : parE T = 0) {k : Nat} (hk : k < T.length) : lineE T (k : Int) = 0 := by
 unfold lineE
 rw [if_neg (by simp [h]), if_neg (by omega)]
-- the stem
theorem stemGo_pre (l : List Frm) : ∀ (n m : Nat) (f g : List Snd), stemGo l (some (n, f)) = some (m, g) → g = f ∧ m ≤ n ∧ ∀ x ∈ l, x.1 = true → m ≤ cpl f x.2 := by
 induction l with
 | nil => intro n m f g h; cases h; exact ⟨rfl, rr, fun x hx => by cases hx⟩
 | cons y r ih =>
  intro n m f g h
  cases hy : y.1 with
  | false =>
   obtain ⟨h1, h2, h3⟩ := ih n m f g (by simpa [stemGo, hy] using h)
   refine ⟨h1, h2, fun x hx hx1 => ?_⟩
   rcases List.mem_cons.1 hx with rfl | hx
   ·rw [hy] at hx1; cases hx1
   ·exact h3 x hx hx1
  | true =>
   obtain ⟨h1, h2, h3⟩ := ih (min n (cpl f y.2)) m f g (by simpa [stemGo, hy] using h)
   refine ⟨h1, by omega, fun x hx hx1 => ?_⟩
   rcases List.mem_cons.1 hx with rfl | hx
   ·omega
   ·exact h3 x hx hx1
theorem stemGo_min2 (l : List Frm) : ∀ (n m : Nat) (f g : List Snd), stemGo l (some (n, f)) = some (m, g) → m = n ∨ ∃ x ∈ l, x.1 = true ∧ m = cpl f x.2 := by
 induction l with
 | nil => intro n m f g h; cases h; exact .inl rfl
 | cons y r ih =>
  intro n m f g h
  cases hy : y.1 with
  | false =>
   rcases ih n m f g (by simpa [stemGo, hy] using h) with h1 | ⟨x, hx, h1⟩
   ·exact .inl h1
   ·exact .inr ⟨x, List.mem_cons_of_mem _ hx, h1⟩
  | true =>
   rcases ih (min n (cpl f y.2)) m f g (by simpa [stemGo, hy] using h) with h1 | ⟨x, hx, h1⟩
   ·rcases Nat.le_total n (cpl f y.2) with h2 | h2
    ·exact .inl (by omega)
    ·exact .inr ⟨y, List.mem_cons_self, hy, by omega⟩
   ·exact .inr ⟨x, List.mem_cons_of_mem _ hx, h1⟩
theorem stemK_all (l : List Frm) {m : Nat} {g : List Snd} (h : stemK l = some (m, g)) : (∀ x ∈ l, x.1 = true → m ≤ cpl g x.2) ∧ (m = g.length ∨ ∃ x ∈ l, x.1 = true ∧ m = cpl g x.2) := by
 unfold stemK at h
 induction l with
 | nil => cases h
 | cons y r ih =>
  cases hy : y.1 with
  | false =>
   obtain ⟨h1, h2⟩ := ih (by simpa [stemGo, hy] using h)
   refine ⟨fun x hx hx1 => ?_, ?_⟩
   ·rcases List.mem_cons.1 hx with rfl | hx
    ·rw [hy] at hx1; cases hx1
    ·exact h1 x hx hx1
   ·rcases h2 with h2 | ⟨x, hx, h2⟩
    ·exact .inl h2
    ·exact .inr ⟨x, List.mem_cons_of_mem _ hx, h2⟩
  | true =>
   have h' : stemGo r (some (y.2.length, y.2)) = some (m, g) := by simpa [stemGo, hy] using h
   obtain ⟨rfl, h2, h3⟩ := stemGo_pre r _ _ _ _ h'
   refine ⟨fun x hx hx1 => ?_, ?_⟩
   ·rcases List.mem_cons.1 hx with rfl | hx
    ·rw [cpl_self]; exact h2
    ·exact h3 x hx hx1
   ·rcases stemGo_min2 r _ _ _ _ h' with h4 | ⟨x, hx, h4⟩
    ·exact .inl h4
    ·exact .inr ⟨x, List.mem_cons_of_mem _ hx, h4⟩
theorem cpl_pre (xs ys : List Snd) : xs.take (cpl xs ys) = ys.take (cpl xs ys) := by
 induction xs generalizing ys with
 | nil => cases ys <;> simp [cpl]
 | cons x xs ih => cases ys with
  | nil => simp [cpl]
  | cons y ys =>
   by_cases h : x = y
   ·subst h; simp [cpl, ih ys]
   ·simp [cpl, h]
theorem cpl_stop (xs ys : List Snd) (h1 : cpl xs ys < xs.length) (h2 : cpl xs ys < ys.length) : xs[cpl xs ys]? ≠ ys[cpl xs ys]? := by
 induction xs generalizing ys with
 | nil => simp at h1
 | cons x xs ih => cases ys with
  | nil => simp at h2
  | cons y ys =>
   by_cases h : x = y
   ·subst h
    have e : cpl (x :: xs) (x :: ys) = cpl xs ys + 1 := by simp [cpl]
    rw [e] at h1 h2 ⊢
    simpa using ih ys (by simpa using h1) (by simpa using h2)
   ·have e : cpl (x :: xs) (y :: ys) = 0 := by simp [cpl, h]
    rw [e]; simpa using h
theorem stem_pre {l : List Frm} {m : Nat} {g : List Snd} (h : stemK l = some (m, g)) {x : Frm} (hx : x ∈ l) (h1 : x.1 = true) : g.take m ++ x.2.drop m = x.2 := by
 have h2 := (stemK_all l h).1 x hx h1
 have h3 := congrArg (List.take m) (cpl_pre g x.2)
 rw [List.take_take, List.take_take, Nat.min_eq_left h2] at h3
 rw [h3, List.take_append_drop]
theorem stem_max {l : List Frm} {m : Nat} {g : List Snd} (h : stemK l = some (m, g)) (s : Snd) (ha : ∀ x ∈ l, x.1 = true → x.2[m]? = some s) : False := by
 obtain ⟨y, hy, hy1, hy2⟩ := stemK_first h
 have hg := ha y hy hy1
 rw [hy2] at hg
 have hl : m < g.length := by
  rcases Nat.lt_or_ge m g.length with h5 | h5
  ·exact h5
  ·rw [List.getElem?_eq_none h5] at hg; cases hg
 rcases (stemK_all l h).2 with h1 | ⟨x, hx, hx1, h1⟩
 ·omega
 ·have hxs := ha x hx hx1
  have hl2 : m < x.2.length := by
   rcases Nat.lt_or_ge m x.2.length with h5 | h5
   ·exact h5
   ·rw [List.getElem?_eq_none h5] at hxs; cases hxs
  subst h1
  exact cpl_stop g x.2 hl hl2 (hg.trans hxs.symm)
def allGo : List Frm → Option Snd → Bool → Option Snd × Bool
 | [], f, a => (f, a)
 | x :: r, f, a =>
  if x.1 then
   match x.2 with
   | [] => allGo r f false
   | s :: _ => match f with
    | none => allGo r (some s) a
    | some t => allGo r f (a && decide (s = t))
  else allGo r f a
theorem allGo_false (l : List Frm) : ∀ f, (allGo l f false).2 = false := by
 induction l with
 | nil => intro f; rfl
 | cons x r ih =>
  intro f
  unfold allGo
  split
  ·split
   ·exact ih _
   ·split
    ·exact ih _
    ·simpa using ih _
  ·exact ih _
theorem allGo_true (l : List Frm) : ∀ f a, (allGo l f a).2 = true → a = true ∧ (∀ x ∈ l, x.1 = true → x.2 ≠ []) ∧ (∀ t, f = some t → ∀ x ∈ l, x.1 = true → x.2.head? = some t) ∧ ∀ x ∈ l, x.1 = true → ∀ y ∈ l, y.1 = true → x.2.head? = y.2.head? := by
 induction l with
 | nil => intro f a h; exact ⟨h, (fun x hx => by cases hx), (fun t _ x hx => by cases hx), (fun x hx => by cases hx)⟩
 | cons x r ih =>
  intro f a h
  unfold allGo at h
  cases hx : x.1 with
  | false =>
   rw [hx] at h
   obtain ⟨h1, h2, h3, h4⟩ := ih f a (by simpa using h)
   have key : ∀ y ∈ x :: r, y.1 = true → y ∈ r := fun y hy hy1 => by
    rcases List.mem_cons.1 hy with rfl | hy
    ·rw [hx] at hy1; cases hy1
    ·exact hy
   exact ⟨h1, fun y hy hy1 => h2 y (key y hy hy1) hy1, fun t ht y hy hy1 => h3 t ht y (key y hy hy1) hy1, fun y hy hy1 z hz hz1 => h4 y (key y hy hy1) hy1 z (key z hz hz1) hz1⟩
  | true =>
   rw [hx] at h
   obtain ⟨hh, ws⟩ := x
   have hx' : hh = true := hx
   subst hx'
   cases ws with
   | nil => simp [allGo_false] at h
   | cons s ws =>
    cases f with
    | none =>
     obtain ⟨h1, h2, h3, h4⟩ := ih (some s) a (by simpa using h)
     have h5 := h3 s rfl
     have key : ∀ y ∈ (true, s :: ws) :: r, y.1 = true → y.2.head? = some s := fun y hy hy1 => by
      rcases List.mem_cons.1 hy with rfl | hy
      ·rfl
      ·exact h5 y hy hy1
     refine ⟨h1, fun y hy hy1 => ?_, fun t ht => (by cases ht), fun y hy hy1 z hz hz1 => (key y hy hy1).trans (key z hz hz1).symm⟩
     intro e; have := key y hy hy1; rw [e] at this; cases this
    | some t =>
     obtain ⟨h1, h2, h3, h4⟩ := ih (some t) (a && decide (s = t)) (by simpa using h)
     rw [Bool.and_eq_true] at h1
     have hst : s = t := by simpa using h1.2
     subst hst
     have h5 := h3 s rfl
     have key : ∀ y ∈ (true, s :: ws) :: r, y.1 = true → y.2.head? = some s := fun y hy hy1 => by
      rcases List.mem_cons.1 hy with rfl | hy
      ·rfl
      ·exact h5 y hy hy1
     refine ⟨h1.1, fun y hy hy1 => ?_, fun t ht => ?_, fun y hy hy1 z hz hz1 => (key y hy hy1).trans (key z hz hz1).symm⟩
     ·intro e; have := key y hy hy1; rw [e] at this; cases this
     ·cases ht; exact key
theorem ends_not_all {l : List Frm} {m : Nat} {g : List Snd} (h : stemK l = some (m, g)) : (allGo (endsOf l) none true).2 = false := by
 cases hb : (allGo (endsOf l) none true).2 with
 | false => rfl
 | true =>
  exfalso
  obtain ⟨_, h2, _, h4⟩ := allGo_true _ _ _ hb
  have hn : stemN l = (m : Int) := by unfold stemN; rw [h]
  have hmem : ∀ x ∈ l, x.1 = true → ((true, x.2.drop m) : Frm) ∈ endsOf l := fun x hx hx1 => List.mem_map.2 ⟨x, hx, by rw [if_pos hx1, hn]; rfl⟩
  obtain ⟨y, hy, hy1, _⟩ := stemK_first h
  have hne := h2 _ (hmem y hy hy1) rfl
  obtain ⟨s, hs⟩ : ∃ s, (y.2.drop m).head? = some s := by
   cases hd : y.2.drop m with
   | nil => exact absurd hd hne
   | cons s r => exact ⟨s, rfl⟩
  refine stem_max h s fun x hx hx1 => ?_
  have := h4 _ (hmem x hx hx1) rfl _ (hmem y hy hy1) rfl
  rw [hs] at this
  rw [List.head?_drop] at this
  exact this
def hasK (r : List Frm) : Bool := r.any fun x => x.1
theorem stemGo_some (l : List Frm) (s : Nat × List Snd) : ∃ t, stemGo l (some s) = some t := by
 cases h : stemGo l (some s) with
 | some t => exact ⟨t, rfl⟩
 | none => exact absurd (stemGo_none l _ h).1 (by simp)
theorem stem_none {r : List Frm} (h : hasK r = false) : stemK r = none := by
 unfold stemK
 induction r with
 | nil => rfl
 | cons x r ih =>
  unfold hasK at h
  rw [List.any_cons, Bool.or_eq_false_iff] at h
  simpa [stemGo, h.1] using ih h.2
theorem stem_some {r : List Frm} (h : hasK r = true) : ∃ s, stemK r = some s := by
 cases hs : stemK r with
 | some s => exact ⟨s, rfl⟩
 | none =>
  obtain ⟨x, hx, h1⟩ := List.any_eq_true.1 h
  rw [(stemGo_none r none hs).2 x hx] at h1; cases h1
theorem pStem_row {T : List (List Frm)} (hp : parE T = 0) {i : Nat} {r : List Frm} (h : T[i]? = some r) : pStemM T i = if hasK r = true then (0, stemW (stemK r)) else (5, []) := by
 obtain ⟨hi, _⟩ := List.getElem?_eq_some_iff.1 h
 unfold pStemM
 rw [line_zero hp hi, row_at h, if_neg (by decide)]
 unfold stemM
 by_cases hk : hasK r = true
 ·obtain ⟨s, hs⟩ := stem_some hk
  rw [if_pos hk, hs]; rfl
 ·rw [if_neg hk, stem_none (by simpa using hk)]; rfl
theorem pEnds_row {T : List (List Frm)} (hp : parE T = 0) {i : Nat} {r : List Frm} (h : T[i]? = some r) : pEndsM T i = if hasK r = true then (0, endsOf r) else (5, []) := by
 unfold pEndsM
 rw [pStem_row hp h, row_at h]
 by_cases hk : hasK r = true
 ·rw [if_pos hk, if_neg (by simp), if_pos hk]
 ·rw [if_neg hk, if_pos (by simp), if_neg hk]
theorem ends_form {r : List Frm} {k : Nat} {h : Bool} {ws : List Snd} (hk : r[k]? = some (h, ws)) (h0 : h = false → ws = []) : ∃ es, (endsOf r)[k]? = some (h, es) ∧ (h = true → stemW (stemK r) ++ es = ws) := by
 rw [ends_at hk]
 cases h with
 | false => exact ⟨[], rfl, fun e => by cases e⟩
 | true =>
  have hm := List.mem_of_getElem? hk
  refine ⟨_, rfl, fun _ => ?_⟩
  obtain ⟨s, hs⟩ := stem_some (List.any_eq_true.2 ⟨_, hm, rfl⟩)
  obtain ⟨m, g⟩ := s
  rw [hs, show (stemN r).toNat = m by unfold stemN; rw [hs]; rfl]
  exact stem_pre hs hm rfl
theorem ends_row {b : Nat} {r : List Frm} (h : Row4 b r) : Row4 b (endsOf r) := by
 refine ⟨by rw [ends_len]; exact h.1, fun f hf => ?_⟩
 obtain ⟨x, hx, rfl⟩ := List.mem_map.1 hf
 obtain ⟨h1, h2, h3⟩ := h.2 x hx
 cases hx1 : x.1 with
 | false => simp
 | true =>
  refine ⟨fun e => by simp at e, ?_, ?_⟩
  ·simp; omega
  ·intro s hs
   have hs' : s ∈ x.2.drop (stemN r).toNat := by simpa using hs
   exact h3 s (List.mem_of_mem_drop hs')
theorem stem_row {b : Nat} {r : List Frm} (h : Row4 b r) : (stemW (stemK r)).length ≤ b ∧ ∀ s ∈ stemW (stemK r), wvalid s.1 s.2 = true := by
 cases hs : stemK r with
 | none => exact ⟨Nat.zero_le _, fun s hs => by cases hs⟩
 | some t =>
  obtain ⟨m, g⟩ := t
  obtain ⟨x, hx, hx1, rfl⟩ := stemK_first hs
  obtain ⟨_, h2, h3⟩ := h.2 x hx
  refine ⟨?_, fun s hs => h3 s (List.mem_of_mem_take hs)⟩
  show (x.2.take m).length ≤ b
  rw [List.length_take]; omega
theorem row_again {b : Nat} {r : List Frm} (h : Row4 b r) : (endsOf r).map (builtF (stemW (stemK r))) = r := by
 apply List.ext_getElem?
 intro k
 rw [List.getElem?_map]
 cases hk : r[k]? with
 | none => rw [List.getElem?_eq_none (by rw [ends_len]; exact List.getElem?_eq_none_iff.1 hk)]; rfl
 | some x =>
  obtain ⟨hh, ws⟩ := x
  have hm := List.mem_of_getElem? hk
  obtain ⟨es, h1, h2⟩ := ends_form hk (h.2 _ hm).1
  rw [h1]
  cases hh with
  | false =>
   have h3 := (h.2 _ hm).1 rfl
   have h4 : ws = [] := h3
   subst h4
   rw [ends_at hk] at h1
   have : es = [] := by simpa using h1.symm
   subst this; rfl
  | true => simp [builtF, h2 rfl]
section
variable {α : Type} [DecidableEq α]
def labAt (l : List α) (i : Nat) : Nat := match l[i]? with | none => 0 | some x => l.findIdx (fun y => decide (y = x))
theorem labAt_eq {l : List α} {i : Nat} {x : α} (h : l[i]? = some x) : labAt l i = l.findIdx (fun y => decide (y = x)) := by unfold labAt; rw [h]
theorem labels_get {l : List α} {i : Nat} (h : i < l.length) : (labelsM l)[i]? = some (labAt l i : Int) := by
 have hx : l[i]? = some l[i] := List.getElem?_eq_getElem h
 rw [labels_at hx, labAt_eq hx]
theorem lab_self {l : List α} {i : Nat} (h : i < l.length) : labAt l i ≤ i ∧ l[labAt l i]? = l[i]? := by
 have hx : l[i]? = some l[i] := List.getElem?_eq_getElem h
 rw [labAt_eq hx]
 refine ⟨lab_le hx, ?_⟩
 have hm : l[i] ∈ l := List.getElem_mem h
 have h1 : l.findIdx (fun y => decide (y = l[i])) < l.length := List.findIdx_lt_length_of_exists ⟨l[i], hm, by simp⟩
 have h2 := List.findIdx_getElem (w := h1)
 rw [hx, List.getElem?_eq_getElem h1]
 simpa using h2
theorem lab_lab {l : List α} {i : Nat} (h : i < l.length) : labAt l (labAt l i) = labAt l i := by
 obtain ⟨h1, h2⟩ := lab_self h
 have hx : l[i]? = some l[i] := List.getElem?_eq_getElem h
 rw [hx] at h2
 rw [labAt_eq h2, labAt_eq hx]
theorem lab_iff {l : List α} {i j : Nat} (hi : i < l.length) (hj : j < l.length) : labAt l i = labAt l j ↔ l[i]? = l[j]? := by
 constructor
 ·intro h
  rw [← (lab_self hi).2, ← (lab_self hj).2, h]
 ·intro h
  unfold labAt; rw [h]
theorem lab_map {β : Type} [DecidableEq β] (f : α → β) {l : List α} {i j : Nat} (hi : i < l.length) (hj : j < l.length) (h : labAt l i = labAt l j) : labAt (l.map f) i = labAt (l.map f) j := by
 rw [lab_iff (by simpa using hi) (by simpa using hj)]
 rw [lab_iff hi hj] at h
 rw [List.getElem?_map, List.getElem?_map, h]
end
-- rows that are built
theorem cpl_app (s a b : List Snd) : cpl (s ++ a) (s ++ b) = s.length + cpl a b := by
 induction s with
 | nil => simp
 | cons x s ih => simp [cpl, ih]; omega
theorem stemGo_built (s : List Snd) (l : List Frm) : ∀ st : Option (Nat × List Snd), stemGo (l.map (builtF s)) (st.map fun p => (s.length + p.1, s ++ p.2)) = (stemGo l st).map fun p => (s.length + p.1, s ++ p.2) := by
 induction l with
 | nil => intro st; rfl
 | cons x r ih =>
  intro st
  rw [List.map_cons]
  cases hx : x.1 with
  | false =>
   have e1 : stemGo (builtF s x :: r.map (builtF s)) (st.map fun p => (s.length + p.1, s ++ p.2)) = stemGo (r.map (builtF s)) (st.map fun p => (s.length + p.1, s ++ p.2)) := by simp [stemGo, builtF, hx]
   have e2 : stemGo (x :: r) st = stemGo r st := by simp [stemGo, hx]
   rw [e1, e2, ih]
  | true =>
   cases st with
   | none =>
    have e1 : stemGo (builtF s x :: r.map (builtF s)) none = stemGo (r.map (builtF s)) ((some (x.2.length, x.2)).map fun p => (s.length + p.1, s ++ p.2)) := by simp [stemGo, builtF, hx]
    have e2 : stemGo (x :: r) none = stemGo r (some (x.2.length, x.2)) := by simp [stemGo, hx]
    rw [Option.map_none, e1, e2, ih]
   | some p =>
    obtain ⟨n, f⟩ := p
    have e1 : stemGo (builtF s x :: r.map (builtF s)) (some (s.length + n, s ++ f)) = stemGo (r.map (builtF s)) ((some (min n (cpl f x.2), f)).map fun p => (s.length + p.1, s ++ p.2)) := by
     simp [stemGo, builtF, hx, cpl_app]
    have e2 : stemGo (x :: r) (some (n, f)) = stemGo r (some (min n (cpl f x.2), f)) := by simp [stemGo, hx]
    rw [Option.map_some, e1, e2, ih]
theorem stemK_built (s : List Snd) (l : List Frm) : stemK (l.map (builtF s)) = (stemK l).map fun p => (s.length + p.1, s ++ p.2) := stemGo_built s l none
theorem ends_built (s : List Snd) (l : List Frm) (h : ∀ x ∈ l, x.1 = false → x.2 = []) : endsOf (l.map (builtF s)) = endsOf l := by
 unfold endsOf
 rw [List.map_map]
 apply List.map_congr_left
 intro x hx
 show (if (builtF s x).1 = true then (true, (builtF s x).2.drop (stemN (l.map (builtF s))).toNat) else (false, [])) = _
 cases hx1 : x.1 with
 | false => simp [builtF, hx1]
 | true =>
  have e : (stemN (l.map (builtF s))).toNat = s.length + (stemN l).toNat := by
   unfold stemN
   rw [stemK_built]
   cases hs : stemK l with
   | none =>
    have := (stemGo_none l none hs).2 x hx
    rw [hx1] at this; cases this
   | some p => simp; omega
  rw [e]
  simp [builtF, hx1]
theorem row_built {b c : Nat} {s : List Snd} {l : List Frm} (hs : s.length ≤ c) (hv : ∀ x ∈ s, wvalid x.1 x.2 = true) (h : Row4 b l) : Row4 (c + b) (l.map (builtF s)) := by
 refine ⟨by simpa using h.1, fun f hf => ?_⟩
 obtain ⟨x, hx, rfl⟩ := List.mem_map.1 hf
 obtain ⟨h1, h2, h3⟩ := h.2 x hx
 cases hx1 : x.1 with
 | false => simp [builtF, hx1, h1 hx1]
 | true =>
  refine ⟨fun e => (by simp [builtF, hx1] at e), ?_, ?_⟩
  ·simp [builtF, hx1]; omega
  ·intro y hy
   have hy' : y ∈ s ++ x.2 := by simpa [builtF, hx1] using hy
   rcases List.mem_append.1 hy' with hy | hy
   ·exact hv y hy
   ·exact h3 y hy
theorem build_ok {wss : List (List Snd)} {T : List (List Frm)} (hl : wss.length = T.length) (hn : T.length ≤ 64) (hw : ∀ s ∈ wss, s.length ≤ 3 ∧ ∀ x ∈ s, wvalid x.1 x.2 = true) (h : ∀ r ∈ T, Row4 3 r) :
  pBuildM wss T = (0, (wss.zip T).map fun p => p.2.map (builtF p.1)) := by
 have hp := par_zero (b := 3) (by omega) hn h
 have hs := par_shape hp
 have hwd : wordsE T = 0 := by unfold parE at hp; rw [hs] at hp; simpa using hp
 unfold pBuildM
 rw [if_neg (by rw [hs]; omega), if_neg (by rw [hs]; omega), if_neg, if_neg (by simp [hwd]), if_neg]
 ·intro hc
  obtain ⟨p, hp1, hp2⟩ := List.any_eq_true.1 hc
  obtain ⟨f, hf, hb⟩ := List.any_eq_true.1 hp2
  obtain ⟨h1, h2⟩ := List.of_mem_zip hp1
  have h3 := ((row_built (hw _ h1).1 (hw _ h1).2 (h _ h2)).2 (builtF p.1 f) (List.mem_map.2 ⟨f, hf, rfl⟩)).2.1
  unfold longF at hb
  have : 32 < (builtF p.1 f).2.length := by simpa using hb
  omega
 ·have := firstE_good (ws := wss) fun x hx => wcheck_ok (by have := (hw x hx).1; omega) (hw x hx).2
  simp [this]
theorem build_again {F : List (List Frm)} (h : ∀ r ∈ F, Row4 3 r) (hn : F.length ≤ 64) : pBuildM (F.map fun r => stemW (stemK r)) (F.map endsOf) = (0, F) := by
 rw [build_ok (by simp) (by simpa using hn) (fun s hs => by obtain ⟨r, hr, rfl⟩ := List.mem_map.1 hs; exact stem_row (h r hr)) (fun r hr => by obtain ⟨r', hr', rfl⟩ := List.mem_map.1 hr; exact ends_row (h r' hr'))]
 congr 1
 rw [List.zip_map', List.map_map]
 conv => rhs; rw [← List.map_id F]
 apply List.map_congr_left
 intro r hr
 exact row_again (h r hr)
-- grades
theorem one_sat (k : Nat) : fsat (oneS k).1 (oneS k).2 0 0 = true := by
 unfold oneS
 split
 ·kernel_rfl
 ·split <;> kernel_rfl
theorem grade_all (x : Nat) : (rowM x).map (gradeF (0, 0)) = rowM x := by
 conv => rhs; rw [← List.map_id (rowM x)]
 apply List.map_congr_left
 intro f hf
 obtain ⟨n, rfl⟩ := row_form hf
 unfold gradeF
 have h : (oneM n).2.filter (fun s => fsat s.1 s.2 ((0, 0) : Snd).1 ((0, 0) : Snd).2) = (oneM n).2 := List.filter_eq_self.2 fun s hs => by
  unfold oneM at hs
  split at hs
  ·cases hs
  ·obtain ⟨k, _, rfl⟩ := List.mem_map.1 hs
   exact one_sat _
 rw [h]; rfl
-- what a paradigm becomes
theorem der_none {T : List (List Frm)} (h : parE T = 0) : pDerM T [] = (0, T) := by
 have hd : ∀ ws : List Snd, wcheck ws = 0 → deriveM [] ws = (0, ws) := fun ws hw => by rw [derive_ok rfl hw]; rfl
 unfold pDerM
 rw [if_neg (by decide), if_neg (by simp [h]), if_neg]
 ·congr 1
  conv => rhs; rw [← List.map_id T]
  apply List.map_congr_left
  intro l hl
  show l.map _ = l
  conv => rhs; rw [← List.map_id l]
  apply List.map_congr_left
  intro x hx
  unfold derF
  rw [hd _ (words_all h hl hx)]
  cases hx1 : x.1 <;> simp [← hx1]
 ·intro hc
  obtain ⟨l, hl, hb⟩ := List.any_eq_true.1 hc
  obtain ⟨x, hx, hb⟩ := List.any_eq_true.1 hb
  unfold derBad at hb
  rw [hd _ (words_all h hl hx)] at hb
  simp at hb
theorem der_len (T : List (List Frm)) (ls : List LawD) (h : (pDerM T ls).1 ≠ 0) : (pDerM T ls).2 = [] := by
 unfold pDerM at h ⊢
 split
 ·rfl
 ·split
  ·rfl
  ·split
   ·rfl
   ·rename_i h1 h2 h3; rw [if_neg h1, if_neg h2, if_neg h3] at h; exact absurd rfl h
theorem der_good {T : List (List Frm)} {ls : List LawD} (h : (pDerM T ls).1 = 0) : lawsE ls = 0 ∧ parE T = 0 ∧ (∀ l ∈ T, ∀ x ∈ l, x.1 = true → (deriveM ls x.2).1 = 0) ∧ pDerM T ls = (0, T.map fun l => l.map (derF ls)) := by
 unfold pDerM at h ⊢
 by_cases h1 : lawsE ls = 0
 ·rw [if_neg (by simpa using h1)] at h ⊢
  by_cases h2 : parE T = 0
  ·rw [if_neg (by simpa using h2)] at h ⊢
   by_cases h3 : T.any (fun l => l.any (derBad ls)) = true
   ·rw [if_pos h3] at h; exact absurd h (by decide)
   ·rw [if_neg h3]
    refine ⟨h1, h2, fun l hl x hx hx1 => ?_, rfl⟩
    have h4 : derBad ls x = false := by
     cases hb : derBad ls x with
     | false => rfl
     | true => exact absurd (List.any_eq_true.2 ⟨l, hl, List.any_eq_true.2 ⟨x, hx, hb⟩⟩) h3
    unfold derBad at h4
    rw [hx1] at h4
    simpa using h4
  ·rw [if_pos h2] at h; exact absurd h h2
 ·rw [if_pos h1] at h; exact absurd h h1
theorem der_at {ls : List LawD} {ws : List Snd} (hl : lawsE ls = 0) (hw : wcheck ws = 0) (h : (deriveM ls ws).1 = 0) (k : Nat) :
  (deriveM (ls.take k) ws).1 = 0 ∧ wcheck (deriveM (ls.take k) ws).2 = 0 ∧ deriveM (ls.drop k) (deriveM (ls.take k) ws).2 = deriveM ls ws := by
 by_cases hb : (endM (ls.take k) ws).1 = 0
 ·obtain ⟨h1, h2, h3⟩ := sums_ok k hl hw hb
  rw [h1]
  exact ⟨rfl, h2, h3.symm⟩
 ·rw [(sums_bad k hl hw hb).1] at h; exact absurd h (by decide)
theorem der_parts {T : List (List Frm)} {ls : List LawD} (hr : ∀ r ∈ T, Row4 3 r) (hn : T.length ≤ 64) (h : (pDerM T ls).1 = 0) (k : Nat) :
  pDerM T (ls.take k) = (0, T.map fun l => l.map (derF (ls.take k))) ∧ pDerM (T.map fun l => l.map (derF (ls.take k))) (ls.drop k) = pDerM T ls := by
 obtain ⟨hl, hp, hg, he⟩ := der_good h
 have hl1 : lawsE (ls.take k) = 0 := lawsE_sub hl (by simp; omega) fun l hl => List.mem_of_mem_take hl
 have hl2 : lawsE (ls.drop k) = 0 := lawsE_sub hl (by simp) fun l hl => List.mem_of_mem_drop hl
 have ha : ∀ l ∈ T, ∀ x ∈ l, x.1 = true → (deriveM (ls.take k) x.2).1 = 0 ∧ wcheck (deriveM (ls.take k) x.2).2 = 0 ∧ deriveM (ls.drop k) (deriveM (ls.take k) x.2).2 = deriveM ls x.2 :=
  fun l hl' x hx hx1 => der_at hl (words_all hp hl' hx) (hg l hl' x hx hx1) k
 have h1 : pDerM T (ls.take k) = (0, T.map fun l => l.map (derF (ls.take k))) := by
  unfold pDerM
  rw [if_neg (by simp [hl1]), if_neg (by simp [hp]), if_neg]
  intro hc
  obtain ⟨l, hl', hb⟩ := List.any_eq_true.1 hc
  obtain ⟨x, hx, hb⟩ := List.any_eq_true.1 hb
  unfold derBad at hb
  rw [Bool.and_eq_true] at hb
  have := (ha l hl' x hx hb.1).1
  rw [this] at hb; exact absurd hb.2 (by decide)
 refine ⟨h1, ?_⟩
 have hp2 : parE (T.map fun l => l.map (derF (ls.take k))) = 0 := by
  have hs : shapeE (T.map fun l => l.map (derF (ls.take k))) = 0 := shape_zero (m := 4) (by simpa using hn) (by omega) fun r hr' => by
   obtain ⟨l, hl', rfl⟩ := List.mem_map.1 hr'
   refine ⟨by simpa using (hr l hl').1, fun f hf hf1 => ?_⟩
   obtain ⟨x, hx, rfl⟩ := List.mem_map.1 hf
   have hx1 : x.1 = false := hf1
   unfold derF
   simp [hx1, ((hr l hl').2 x hx).1 hx1]
  have hw : wordsE (T.map fun l => l.map (derF (ls.take k))) = 0 := firstE_good fun y hy => by
   obtain ⟨f, hf, rfl⟩ := List.mem_map.1 hy
   obtain ⟨r, hr', hf⟩ := List.mem_flatten.1 hf
   obtain ⟨l, hl', rfl⟩ := List.mem_map.1 hr'
   obtain ⟨x, hx, rfl⟩ := List.mem_map.1 hf
   cases hx1 : x.1 with
   | false => simp only [derF, hx1]; exact words_all hp hl' hx
   | true => simp only [derF, hx1]; exact (ha l hl' x hx hx1).2.1
  unfold parE
  rw [hs]; simpa using hw
 rw [he]
 have hd : ∀ l ∈ T, ∀ x ∈ l, derBad (ls.drop k) (derF (ls.take k) x) = false ∧ derF (ls.drop k) (derF (ls.take k) x) = derF ls x := fun l hl' x hx => by
  cases hx1 : x.1 with
  | false => simp [derBad, derF, hx1]
  | true =>
   have h3 := (ha l hl' x hx hx1).2.2
   simp [derBad, derF, hx1, h3, hg l hl' x hx hx1]
 unfold pDerM
 rw [if_neg (by simp [hl2]), if_neg (by simp [hp2]), if_neg]
 ·congr 1
  rw [List.map_map]
  apply List.map_congr_left
  intro l hl'
  show (l.map _).map _ = _
  rw [List.map_map]
  apply List.map_congr_left
  intro x hx
  exact (hd l hl' x hx).2
 ·intro hc
  obtain ⟨l, hl', hb⟩ := List.any_eq_true.1 hc
  obtain ⟨l0, hl0, rfl⟩ := List.mem_map.1 hl'
  obtain ⟨x, hx, hb⟩ := List.any_eq_true.1 hb
  obtain ⟨x0, hx0, rfl⟩ := List.mem_map.1 hx
  rw [(hd l0 hl0 x0 hx0).1] at hb; cases hb
def WAw (S : Nat → Prop) (w : World) (p : Part) : Prop := IsWord w p.1 p.2.1 p.2.2.1 p.2.2.2 ∧ ∀ ad, p.1 = some ad → 0 < p.2.1 → ¬ S ad.block
theorem WAw.below {S : Nat → Prop} {w w' : World} {p : Part} (h : WAw S w p) (hb : Below w.heap.size w w') : WAw S w' p := ⟨h.1.below hb rr, h.2⟩
theorem WAw.keep {S S' : Nat → Prop} {w w' : World} {p : Part} (h : WAw S w p) (hk : Keep S w w') (hS : ∀ k, k < w.heap.size → S' k → S k) : WAw S' w' p :=
 ⟨h.1.keep hk fun hn ad had => h.2 ad had hn, fun ad had hn e => h.2 ad had hn (hS _ (part_lt h.1 had hn) e)⟩
def triS (v4 v5 v6 : Value) (k : Nat) : Prop := v4.ownBlock = some k ∨ v5.ownBlock = some k ∨ v6.ownBlock = some k
structure Tri (w : World) (B : Nat) (v4 v5 v6 : Value) (rs : List RowR) (ps : List Part) (es : List RowR) : Prop where
 o4 : w.ownsRow B 70 1 v4 rs.length (rs.map RowR.val)
 o5 : w.ownsRow B 32 1 v5 ps.length (ps.map Part.val)
 o6 : w.ownsRow B 70 1 v6 es.length (es.map RowR.val)
 d45 : ∀ k, v4.ownBlock = some k → v5.ownBlock ≠ some k
 d46 : ∀ k, v4.ownBlock = some k → v6.ownBlock ≠ some k
 d56 : ∀ k, v5.ownBlock = some k → v6.ownBlock ≠ some k
 c4 : ∀ r ∈ rs, FAw (triS v4 v5 v6) w r
 c5 : ∀ p ∈ ps, WAw (triS v4 v5 v6) w p
 c6 : ∀ r ∈ es, FAw (triS v4 v5 v6) w r
 sz : B ≤ w.heap.size
section
variable {w w' X : World} {B : Nat} {v v' v4 v5 v6 : Value} {rs es : List RowR} {ps : List Part}
theorem Tri.nil (w : World) : Tri w w.heap.size (.slice none 0 0) (.slice none 0 0) (.slice none 0 0) [] [] [] :=
 ⟨World.ownsRow_nil _ _ _ _, World.ownsRow_nil _ _ _ _, World.ownsRow_nil _ _ _ _, (fun k h => by cases h), (fun k h => by cases h), (fun k h => by cases h), (fun r h => by cases h), (fun r h => by cases h), (fun r h => by cases h), rr⟩
theorem Tri.below (h : Tri w B v4 v5 v6 rs ps es) (hb : Below w.heap.size w w') : Tri w' B v4 v5 v6 rs ps es :=
 ⟨own_heap h.o4 fun k e => hb.block k (h.o4.lt k e).2, own_heap h.o5 fun k e => hb.block k (h.o5.lt k e).2, own_heap h.o6 fun k e => hb.block k (h.o6.lt k e).2, h.d45, h.d46, h.d56,
  fun r hr => (h.c4 r hr).below hb, fun r hr => (h.c5 r hr).below hb, fun r hr => (h.c6 r hr).below hb, Nat.le_trans h.sz hb.size⟩
theorem Tri.lt (h : Tri w B v4 v5 v6 rs ps es) {k : Nat} (hk : triS v4 v5 v6 k) : B ≤ k ∧ k < w.heap.size := by
 rcases hk with e | e | e
 ·exact h.o4.lt k e
 ·exact h.o5.lt k e
 ·exact h.o6.lt k e
theorem Tri.push4 (h : Tri w B v4 v5 v6 rs ps es) {q : RowR} (hq : FAw (triS v4 v5 v6) w q) (hown : X.ownsRow B 70 1 v (rs.length + 1) (rs.map RowR.val ++ [q.val])) (hg : w.grownBy X v4.ownBlock)
  (hat : v.ownBlock = v4.ownBlock ∨ v.ownBlock = some w.heap.size) : Tri X B v v5 v6 (rs ++ [q]) ps es := by
 have hk : Keep (triS v4 v5 v6) w X := (Keep.refl _ w).grown hg (fun k e => .inl (.inl e))
 have hS : ∀ k, k < w.heap.size → triS v v5 v6 k → triS v4 v5 v6 k := fun k hlt e => by
  rcases e with e | e
  ·rcases hat with e' | e'
   ·exact .inl (e' ▸ e)
   ·rw [e'] at e; injection e with e; omega
  ·exact .inr e
 refine ⟨?_, own_heap h.o5 fun k e => hg.block k (h.o5.lt k e).2 fun e' => h.d45 k e'.symm e, own_heap h.o6 fun k e => hg.block k (h.o6.lt k e).2 fun e' => h.d46 k e'.symm e, fun k e e5 => ?_, fun k e e6 => ?_, h.d56, fun r hr => ?_, fun r hr => (h.c5 r hr).keep hk hS, fun r hr => (h.c6 r hr).keep hk hS, Nat.le_trans h.sz hg.size⟩
 ·rw [List.length_append, List.length_singleton, List.map_append]; exact hown
 ·rcases hat with e' | e'
  ·exact h.d45 k (e' ▸ e) e5
  ·rw [e'] at e; injection e with e; have := (h.o5.lt k e5).2; omega
 ·rcases hat with e' | e'
  ·exact h.d46 k (e' ▸ e) e6
  ·rw [e'] at e; injection e with e; have := (h.o6.lt k e6).2; omega
 ·rcases List.mem_append.1 hr with hr | hr
  ·exact (h.c4 r hr).keep hk hS
  ·obtain rfl : r = q := by simpa using hr
   exact hq.keep hk hS
theorem Tri.push5 (h : Tri w B v4 v5 v6 rs ps es) {q : Part} (hq : WAw (triS v4 v5 v6) w q) (hown : X.ownsRow B 32 1 v (ps.length + 1) (ps.map Part.val ++ [q.val])) (hg : w.grownBy X v5.ownBlock)
  (hat : v.ownBlock = v5.ownBlock ∨ v.ownBlock = some w.heap.size) : Tri X B v4 v v6 rs (ps ++ [q]) es := by
 have hk : Keep (triS v4 v5 v6) w X := (Keep.refl _ w).grown hg (fun k e => .inl (.inr (.inl e)))
 have hS : ∀ k, k < w.heap.size → triS v4 v v6 k → triS v4 v5 v6 k := fun k hlt e => by
  rcases e with e | e | e
  ·exact .inl e
  ·rcases hat with e' | e'
   ·exact .inr (.inl (e' ▸ e))
   ·rw [e'] at e; injection e with e; omega
  ·exact .inr (.inr e)
 refine ⟨own_heap h.o4 fun k e => hg.block k (h.o4.lt k e).2 fun e' => h.d45 k e e'.symm, ?_, own_heap h.o6 fun k e => hg.block k (h.o6.lt k e).2 fun e' => h.d56 k e'.symm e, fun k e e5 => ?_, h.d46, fun k e e6 => ?_, fun r hr => (h.c4 r hr).keep hk hS, fun r hr => ?_, fun r hr => (h.c6 r hr).keep hk hS, Nat.le_trans h.sz hg.size⟩
 ·rw [List.length_append, List.length_singleton, List.map_append]; exact hown
 ·rcases hat with e' | e'
  ·exact h.d45 k e (e' ▸ e5)
  ·rw [e'] at e5; injection e5 with e5; have := (h.o4.lt k e).2; omega
 ·rcases hat with e' | e'
  ·exact h.d56 k (e' ▸ e) e6
  ·rw [e'] at e; injection e with e; have := (h.o6.lt k e6).2; omega
 ·rcases List.mem_append.1 hr with hr | hr
  ·exact (h.c5 r hr).keep hk hS
  ·obtain rfl : r = q := by simpa using hr
   exact hq.keep hk hS
theorem Tri.push6 (h : Tri w B v4 v5 v6 rs ps es) {q : RowR} (hq : FAw (triS v4 v5 v6) w q) (hown : X.ownsRow B 70 1 v (es.length + 1) (es.map RowR.val ++ [q.val])) (hg : w.grownBy X v6.ownBlock)
  (hat : v.ownBlock = v6.ownBlock ∨ v.ownBlock = some w.heap.size) : Tri X B v4 v5 v rs ps (es ++ [q]) := by
 have hk : Keep (triS v4 v5 v6) w X := (Keep.refl _ w).grown hg (fun k e => .inl (.inr (.inr e)))
 have hS : ∀ k, k < w.heap.size → triS v4 v5 v k → triS v4 v5 v6 k := fun k hlt e => by
  rcases e with e | e | e
  ·exact .inl e
  ·exact .inr (.inl e)
  ·rcases hat with e' | e'
   ·exact .inr (.inr (e' ▸ e))
   ·rw [e'] at e; injection e with e; omega
 refine ⟨own_heap h.o4 fun k e => hg.block k (h.o4.lt k e).2 fun e' => h.d46 k e e'.symm, own_heap h.o5 fun k e => hg.block k (h.o5.lt k e).2 fun e' => h.d56 k e e'.symm, ?_, h.d45, fun k e e6 => ?_, fun k e e6 => ?_, fun r hr => (h.c4 r hr).keep hk hS, fun r hr => (h.c5 r hr).keep hk hS, fun r hr => ?_, Nat.le_trans h.sz hg.size⟩
 ·rw [List.length_append, List.length_singleton, List.map_append]; exact hown
 ·rcases hat with e' | e'
  ·exact h.d46 k e (e' ▸ e6)
  ·rw [e'] at e6; injection e6 with e6; have := (h.o4.lt k e).2; omega
 ·rcases hat with e' | e'
  ·exact h.d56 k e (e' ▸ e6)
  ·rw [e'] at e6; injection e6 with e6; have := (h.o5.lt k e).2; omega
 ·rcases List.mem_append.1 hr with hr | hr
  ·exact (h.c6 r hr).keep hk hS
  ·obtain rfl : r = q := by simpa using hr
   exact hq.keep hk hS
theorem Tri.par4 {A : Option Addr} {n c : Nat} (h : Tri w B (.slice A n c) v5 v6 rs ps es) (hn : n = rs.length) : IsPar w A n c (rs.map RowR.l) := by
 subst hn
 exact ⟨rs, rfl, Cells.of_own h.o4 (by decide), fun r hr => (h.c4 r hr).forms⟩
theorem Tri.words5 {A : Option Addr} {n c : Nat} (h : Tri w B v4 (.slice A n c) v6 rs ps es) (hn : n = ps.length) : IsWords w A n c (ps.map Part.word) := by
 subst hn
 exact ⟨ps, rfl, Cells.of_own h.o5 (by decide), fun r hr => (h.c5 r hr).1⟩
theorem Tri.par6 {A : Option Addr} {n c : Nat} (h : Tri w B v4 v5 (.slice A n c) rs ps es) (hn : n = es.length) : IsPar w A n c (es.map RowR.l) := by
 subst hn
 exact ⟨es, rfl, Cells.of_own h.o6 (by decide), fun r hr => (h.c6 r hr).forms⟩
theorem Tri.freshW (h : Tri w B v4 v5 v6 rs ps es) {q : Part} (hq : IsWord w' q.1 q.2.1 q.2.2.1 q.2.2.2) (hf : ∀ ad, q.1 = some ad → w.heap.size ≤ ad.block) : WAw (triS v4 v5 v6) w' q :=
 ⟨hq, fun ad had _ e => by have := (h.lt e).2; have := hf ad had; omega⟩
theorem Tri.freshF (h : Tri w B v4 v5 v6 rs ps es) {A : Option Addr} {n c : Nat} {l : List Frm} (ho : OwnForms w.heap.size w' A n c l) : FAw (triS v4 v5 v6) w' ⟨A, n, c, l⟩ := by
 obtain ⟨fs, h1, h2, h3⟩ := ho
 refine ⟨fs, h1, Recs.of_own h2 FormR.len (by decide), fun ad had hn e => ?_, fun f hf => ⟨(h3 f hf).1, fun ad had _ e => ?_⟩⟩
 ·obtain ⟨g, c', hv, hb, hlt⟩ := own_block h2 hn
  have had' : A = some ad := had
  rw [had'] at hv
  injection hv with hv
  injection hv with hv
  subst hv
  have h4 := (h.lt e).2
  have h5 : w.heap.size ≤ g := hb
  have h6 : g < w.heap.size := h4
  omega
 ·have := (h.lt e).2; have := (h3 f hf).2 ad had; omega
theorem Tri.olderF (h : Tri w B v4 v5 v6 rs ps es) {w0 : World} {A : Option Addr} {n c : Nat} {l : List Frm} (ho : IsForms w0 A n c l) (hw : w0.heap.size ≤ B) (hb : Below w0.heap.size w0 w) : FAw (triS v4 v5 v6) w ⟨A, n, c, l⟩ := by
 obtain ⟨fs, h1, h2, h3⟩ := ho
 refine ⟨fs, h1, h2.below hb rr, fun ad had hn e => ?_, fun f hf => ⟨(h3 f hf).below hb rr, fun ad had hn e => ?_⟩⟩
 ·have := (h.lt e).1; have := cells_lt h2.1 had hn; omega
 ·have := (h.lt e).1; have := part_lt (h3 f hf) had hn; omega
end
theorem labelled_c {α : Type} [DecidableEq α] (l : List α) (A : Option Addr) (n c : Nat) (w : World) (hx : IsInts w A n c (labelsM l)) :
  Calls Tryz.prog 68 #[.slice A n c, .int .i64 n] w (RetTrue w) := by
 have hm := hx.max
 have hln := hx.len
 rw [labels_len] at hln
 have HLN := hI hln
 have HX := hI hx; clear hx hln
 have hnn : ((n : Int) != (n : Int)) = false := by simp
 go_enter Tryz.func68, Tryz.ntmps68
 go_wp2_with fail
 clear hnn
 go_loopw [5] (fun vi wr => ∃ i : Nat, vi = .int .i64 i ∧ i ≤ n ∧ Below w.heap.size w wr) (fun vi _ => n - (intOf vi).toNat)
 case atStart => exact ⟨0, rfl, Nat.zero_le _, Below.refl _ _⟩
 case round =>
  obtain ⟨i, rfl, hi, hB⟩ := hrel
  by_cases hlt : i < n
  ·have hi1 : (i : Int) < (n : Int) := by omega
   obtain ⟨b, off, x, rfl, hb, hc, hxi⟩ := (HX.out.below hB rr).at_ hlt
   rw [labels_get (by rw [HLN.out]; exact hlt)] at hxi
   obtain ⟨j, hj⟩ : ∃ j, j = labAt l i := ⟨_, rfl⟩
   have hs := lab_self (l := l) (i := i) (by rw [HLN.out]; exact hlt)
   have hll := lab_lab (l := l) (i := i) (by rw [HLN.out]; exact hlt)
   rw [← hj] at hxi hs hll
   obtain rfl : (j : Int) = x := Option.some.inj hxi
   have hji := hs.1
   obtain ⟨b', off', x', hA, _, hc', hxj⟩ := (HX.out.below hB rr).at_ (k := j) (by omega)
   rw [labels_get (by rw [HLN.out]; omega), hll] at hxj
   obtain rfl : (j : Int) = x' := Option.some.inj hxj
   obtain ⟨rfl, rfl⟩ : b = b' ∧ off = off' := by simpa using hA
   have q1 : ¬ (j : Int) < 0 := by omega
   have q2 : ¬ (i : Int) < (j : Int) := by omega
   have q3 : ((j : Int) != (j : Int)) = false := by simp
   have q4 : (j : Int) < (n : Int) := by omega
   clear hj hs hll hxi hxj hA
   go_wp2_with fail
   go_quiet (fail)
   go_wp2
   go_roundw
   case rel => exact ⟨i + 1, by go_num, by omega, bel⟩
   case measure => simp [intOf]; omega
  ·have hi1 : ¬ (i : Int) < (n : Int) := by omega
   go_wp2
   go_ret
   exact ⟨rfl, hB⟩
end Go.Proofs.YtcpcojgmmpnkoaaGreatDoor

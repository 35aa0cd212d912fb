/-
  What is kept while inverse.Lost collects words and pairs.
  strings.Builder at this program: tables of numbers, and facts of the program (written by the kit's lay-plain).
  inverse.text: a text for a word.
  derive.Pairs.
  The function that inverse.Lost hands to became.
  inverse.Lost.
-/
import Derived.Maps.OwnSet
import Derived.Shelf.Strings.BuilderK
import Derived.Maps.OwnOps
import Derived.Test.YtlgliddhideflaaGreatDoorH05
import Derived.Test.YtlgliddhideflaaGreatDoorG28
import Derived.Test.YtlgliddhideflaaGreatDoorG16
set_option linter.all false
set_option maxRecDepth 100000
set_option maxHeartbeats 4000000
namespace Go.Proofs.YtlgliddhideflaaGreatDoor
open Go.RowKit Go.Shelf Go.Maps
-- what a word of an alphabet becomes
theorem formsM_u : ∀ (ls : List LawD) (ws : List Snd), WordU ws → ∀ x ∈ (formsM ls ws).2, WordU x
 | [], ws, hw, x, hx => by
  obtain rfl : x = ws := by simpa [formsM] using hx
  exact hw
 | l :: ls, ws, hw, x, hx => by
  unfold formsM at hx
  split at hx
  ·obtain rfl : x = ws := by simpa using hx
   exact hw
  ·rcases List.mem_cons.1 hx with rfl | hx
   ·exact hw
   ·exact formsM_u ls _ (applyM_u hw) x hx
theorem deriveM_u {ls : List LawD} {ws : List Snd} (hw : WordU ws) : WordU (deriveM ls ws).2 := by
 unfold deriveM
 split
 ·intro s hs; simp at hs
 ·split
  ·intro s hs; simp at hs
  ·cases e : (formsM ls ws).2.getLast? with
   | none => intro s hs; simp at hs
   | some x => exact formsM_u ls ws hw x (List.mem_of_getLast? e)
theorem derive_wcheck {ls : List LawD} {ws : List Snd} (hl : lawsE ls = 0) (hw : wcheck ws = 0) : wcheck (deriveM ls ws).2 = 0 := by
 unfold deriveM
 split
 ·rfl
 ·split
  ·rfl
  ·cases e : (formsM ls ws).2.getLast? with
   | none => rfl
   | some x => exact (formsM_ok ls ws (lawsE_all hl).2 hw).2 x (List.mem_of_getLast? e)
theorem outs_facts {ls : List LawD} {ss : List Snd} {k : Nat} (hw : wrongM ls [] ss = 0) (hk : k ≤ 4) (hu : WordU ss) {x y : List Snd} (h : (x, y) ∈ outsM11 ls ss k) : x.length ≤ 4 ∧ y.length ≤ 32 ∧ WordU x ∧ WordU y := by
 obtain ⟨h1, h2, h3⟩ := wrong_none hw
 unfold outsM11 at h
 obtain ⟨v, hv, e⟩ := List.mem_map.1 h
 injection e with e1 e2
 subst e1
 obtain ⟨hvl, hvs⟩ := (words_mem _ k v).1 (List.mem_filter.1 hv).1
 have hin : ∀ s ∈ v, s ∈ ss := fun s hs => (alpha_mem ss s).1 (hvs s hs)
 have hxu : WordU v := fun s hs => hu s (hin s hs)
 have hwc : wcheck v = 0 := wcheck_alpha (refused_none h3).2.1 hin (by omega)
 have hy := derive_wcheck h1 hwc
 rw [e2] at hy
 refine ⟨by omega, ?_, hxu, by rw [← e2]; exact deriveM_u hxu⟩
 exact (wcheck_iff.1 hy).1
def heldL (fs : List Part) (qs : List PairR) : List Part := fs ++ qs.flatMap fun s => [s.p, s.q]
def lostT (bm bf bo : Nat) (vf vo : Value) (fs : List Part) (qs : List PairR) : Nat → Prop := fun k =>
 k = bm ∨ k = bf ∨ k = bo ∨ vf.ownBlock = some k ∨ vo.ownBlock = some k ∨ ∃ p ∈ heldL fs qs, 0 < p.2.1 ∧ ∃ ad, p.1 = some ad ∧ ad.block = k
structure LostW (bp bm bf bo : Nat) (W1 : World) (i : Nat) (vf vo : Value) (fs : List Part) (qs : List PairR) (D : DataW Unit) (X : World) : Prop where
 lt : bp < W1.heap.size ∧ bm < W1.heap.size ∧ bf < W1.heap.size ∧ bo < W1.heap.size ∧ bp ≠ bm ∧ bp ≠ bf ∧ bp ≠ bo ∧ bm ≠ bf ∧ bm ≠ bo ∧ bf ≠ bo
 cp : X.heap[bp]? = some (.cells #[.map (some bm)] 157 (0, 0))
 cf : X.heap[bf]? = some (.cells #[vf] 46 (0, 0))
 co : X.heap[bo]? = some (.cells #[vo] 47 (0, 0))
 om : X.ownsMap Tryz.prog 9 (plainElem (H := Unit) Tryz.prog 3) bm i D
 of : X.ownsRow W1.heap.size 32 1 vf fs.length (fs.map Part.val)
 oo : X.ownsRow W1.heap.size 52 2 vo qs.length (qs.flatMap PairR.cells)
 pw : Parts X (heldL fs qs)
 pd : ∀ p ∈ heldL fs qs, ∀ ad, p.1 = some ad → W1.heap.size ≤ ad.block ∧ (0 < p.2.1 → ¬ vf.ownBlock = some ad.block ∧ ¬ vo.ownBlock = some ad.block)
 fo : ∀ k, vf.ownBlock = some k → ¬ vo.ownBlock = some k
 kp : Keep (fun k => k = bm ∨ k = bf ∨ k = bo) W1 X
section
variable {bp bm bf bo : Nat} {W1 : World} {i : Nat} {vf vo : Value} {fs : List Part} {qs : List PairR} {D : DataW Unit} {X X' : World}
theorem LostW.wlt (h : LostW bp bm bf bo W1 i vf vo fs qs D X) {p : Part} (hp : p ∈ heldL fs qs) (hn : 0 < p.2.1) {ad : Addr} (had : p.1 = some ad) : ad.block < X.heap.size := by
 obtain ⟨b, off, hb, hlt, _⟩ := (h.pw p hp).2.2.2.2 hn
 rw [had] at hb; injection hb with hb; subst hb
 exact hlt
theorem LostW.lts (h : LostW bp bm bf bo W1 i vf vo fs qs D X) : ∀ k, lostT bm bf bo vf vo fs qs k → k < X.heap.size := by
 rintro k (rfl | rfl | rfl | hk | hk | ⟨p, hp, hn, ad, had, rfl⟩)
 ·exact h.om.lt
 ·exact lt_of_block h.cf
 ·exact lt_of_block h.co
 ·exact (h.of.lt k hk).2
 ·exact (h.oo.lt k hk).2
 ·exact h.wlt hp hn had
theorem LostW.nds (h : LostW bp bm bf bo W1 i vf vo fs qs D X) : ∀ k, lostT bm bf bo vf vo fs qs k → ∀ x, X.heap[k]? ≠ some (.deferred x) := by
 rintro k (rfl | rfl | rfl | hk | hk | ⟨p, hp, hn, ad, had, rfl⟩) x hx
 ·obtain ⟨es, clock, hb, _⟩ := h.om; rw [hb] at hx; cases hx
 ·rw [h.cf] at hx; cases hx
 ·rw [h.co] at hx; cases hx
 ·obtain ⟨cur, hc⟩ := own_cells h.of hk; rw [hc] at hx; cases hx
 ·obtain ⟨cur, hc⟩ := own_cells h.oo hk; rw [hc] at hx; cases hx
 ·obtain ⟨v, hv⟩ := word_block (h.pw p hp) hn had
  simp [World.cell?, hx] at hv
theorem LostW.keep (h : LostW bp bm bf bo W1 i vf vo fs qs D X) (hk : Keep (fun b => W1.heap.size ≤ b ∧ ¬ lostT bm bf bo vf vo fs qs b) X X') : LostW bp bm bf bo W1 i vf vo fs qs D X' := by
 have hs := h.kp.size
 have hin : ∀ k, lostT bm bf bo vf vo fs qs k → X'.heap[k]? = X.heap[k]? := fun k hT => hk.block k (h.lts k hT) (fun e => e.2 hT)
 have hbp : X'.heap[bp]? = X.heap[bp]? := hk.block bp (lt_of_block h.cp) (fun e => by have := h.lt.1; omega)
 refine ⟨h.lt, hbp.trans h.cp, (hin _ (.inr (.inl rfl))).trans h.cf, (hin _ (.inr (.inr (.inl rfl)))).trans h.co, ?_, own_heap h.of fun k e => hin k (.inr (.inr (.inr (.inl e)))), own_heap h.oo fun k e => hin k (.inr (.inr (.inr (.inr (.inl e))))),
  fun p hp => (h.pw p hp).keep hk fun hn ad had e => e.2 (.inr (.inr (.inr (.inr (.inr ⟨p, hp, hn, ad, had, rfl⟩))))), h.pd, h.fo, ?_⟩
 ·obtain ⟨es, clock, hb, r⟩ := h.om
  exact ⟨es, clock, (hin _ (.inl rfl)).trans hb, r⟩
 ·exact ((h.kp.mono (S' := fun k => (k = bm ∨ k = bf ∨ k = bo) ∨ W1.heap.size ≤ k) fun _ e => .inl e).trans (hk.mono fun _ e => .inr e.1)).old fun k hlt e => e.resolve_right (by omega)
theorem mem_held {p q : Part} (hp : p ∈ heldL (fs ++ [q]) qs) : p ∈ heldL fs qs ∨ p = q := by
 unfold heldL at *
 rcases List.mem_append.1 hp with hp | hp
 ·rcases List.mem_append.1 hp with hp | hp
  ·exact .inl (List.mem_append.2 (.inl hp))
  ·exact .inr (by simpa using hp)
 ·exact .inl (List.mem_append.2 (.inr hp))
theorem mem_held2 {p : Part} {s : PairR} (hp : p ∈ heldL fs (qs ++ [s])) : p ∈ heldL fs qs ∨ p = s.p ∨ p = s.q := by
 unfold heldL at *
 rcases List.mem_append.1 hp with hp | hp
 ·exact .inl (List.mem_append.2 (.inl hp))
 ·rw [List.flatMap_append] at hp
  rcases List.mem_append.1 hp with hp | hp
  ·exact .inl (List.mem_append.2 (.inr hp))
  ·exact .inr (by simpa using hp)
theorem LostW.upd (h : LostW bp bm bf bo W1 i vf vo fs qs D X) {D' : DataW Unit} {j : Nat} (hg : X.grownBy X' (some bm)) (hm : X'.ownsMap Tryz.prog 9 (plainElem (H := Unit) Tryz.prog 3) bm j D') :
  LostW bp bm bf bo W1 j vf vo fs qs D' X' ∧ Keep (fun k => k = bm) X X' := by
 have hK : Keep (fun k => k = bm) X X' := (Keep.refl (fun k => k = bm) X).grown hg (fun k e => by injection e with e; exact .inl e.symm)
 have hs := h.kp.size
 have hl := h.lt
 have ho : ∀ k, k < X.heap.size → k ≠ bm → X'.heap[k]? = X.heap[k]? := fun k hk hn => hK.block k hk hn
 refine ⟨⟨h.lt, (ho _ (by omega) hl.2.2.2.2.1).trans h.cp, (ho _ (by omega) (fun e => hl.2.2.2.2.2.2.2.1 e.symm)).trans h.cf, (ho _ (by omega) (fun e => hl.2.2.2.2.2.2.2.2.1 e.symm)).trans h.co, hm, own_heap h.of fun k e => ho k (h.of.lt k e).2 (by have := (h.of.lt k e).1; omega),
  own_heap h.oo fun k e => ho k (h.oo.lt k e).2 (by have := (h.oo.lt k e).1; omega), fun p hp => (h.pw p hp).keep hK fun hn ad had e => by have := (h.pd p hp ad had).1; omega, h.pd, h.fo, h.kp.trans (hK.mono fun _ e => .inl e)⟩, hK⟩
theorem LostW.first (h : LostW bp bm bf bo W1 i vf vo fs qs D X) {vf' : Value} {p : Part} (hK : Keep (fun k => vf.ownBlock = some k ∨ k = bf) X X') (hc : X'.heap[bf]? = some (.cells #[vf'] 46 (0, 0)))
  (ho : X'.ownsRow W1.heap.size 32 1 vf' (fs ++ [p]).length ((fs ++ [p]).map Part.val)) (hat : ∀ k, vf'.ownBlock = some k → vf.ownBlock = some k ∨ X.heap.size ≤ k) (hp : IsWord X p.1 p.2.1 p.2.2.1 p.2.2.2)
  (hd : ∀ ad, p.1 = some ad → W1.heap.size ≤ ad.block ∧ ¬ lostT bm bf bo vf vo fs qs ad.block) : LostW bp bm bf bo W1 i vf' vo (fs ++ [p]) qs D X' ∧
   ∀ k, lostT bm bf bo vf' vo (fs ++ [p]) qs k → lostT bm bf bo vf vo fs qs k ∨ X.heap.size ≤ k ∨ (0 < p.2.1 ∧ ∃ ad, p.1 = some ad ∧ ad.block = k) := by
 have hs := h.kp.size
 have hl := h.lt
 have hfo : ∀ k, vf.ownBlock = some k → W1.heap.size ≤ k := fun k e => (h.of.lt k e).1
 have hno : ∀ k, k < W1.heap.size → k ≠ bf → ¬ (vf.ownBlock = some k ∨ k = bf) := fun k h1 h2 e => e.elim (fun e => by have := hfo k e; omega) h2
 have hpl : 0 < p.2.1 → ∀ ad, p.1 = some ad → ad.block < X.heap.size := fun hn ad had => by
  obtain ⟨b, off, hb, hlt, _⟩ := hp.2.2.2.2 hn
  rw [had] at hb; injection hb with hb; subst hb
  exact hlt
 have hwd : ∀ q ∈ heldL (fs ++ [p]) qs, IsWord X q.1 q.2.1 q.2.2.1 q.2.2.2 ∧ ∀ ad, q.1 = some ad → W1.heap.size ≤ ad.block ∧ (0 < q.2.1 → ad.block < X.heap.size ∧ ¬ vf.ownBlock = some ad.block ∧ ¬ vo.ownBlock = some ad.block) := by
  intro q hq
  rcases mem_held hq with hq | rfl
  ·exact ⟨h.pw q hq, fun ad had => ⟨(h.pd q hq ad had).1, fun hn => ⟨h.wlt hq hn had, (h.pd q hq ad had).2 hn⟩⟩⟩
  ·exact ⟨hp, fun ad had => ⟨(hd ad had).1, fun hn => ⟨hpl hn ad had, fun e => (hd ad had).2 (.inr (.inr (.inr (.inl e)))), fun e => (hd ad had).2 (.inr (.inr (.inr (.inr (.inl e)))))⟩⟩⟩
 refine ⟨⟨h.lt, (hK.block _ (lt_of_block h.cp) (hno _ hl.1 hl.2.2.2.2.2.1)).trans h.cp, hc, (hK.block _ (lt_of_block h.co) (hno _ hl.2.2.2.1 (fun e => hl.2.2.2.2.2.2.2.2.2 e.symm))).trans h.co, ?_, ho,
  own_heap h.oo fun k e => hK.block k (h.oo.lt k e).2 (fun e2 => e2.elim (fun e2 => h.fo k e2 e) (fun e2 => by have := (h.oo.lt k e).1; omega)), fun q hq => ?_, fun q hq ad had => ?_, fun k e e2 => ?_, ?_⟩, fun k hk => ?_⟩
 ·obtain ⟨es, clock, hb, r⟩ := h.om
  exact ⟨es, clock, (hK.block _ h.om.lt (hno _ hl.2.1 hl.2.2.2.2.2.2.2.1)).trans hb, r⟩
 ·refine (hwd q hq).1.keep hK fun hn ad had e => ?_
  have h1 := (hwd q hq).2 ad had
  rcases e with e | e
  ·exact (h1.2 hn).2.1 e
  ·omega
 ·have h1 := (hwd q hq).2 ad had
  refine ⟨h1.1, fun hn => ⟨fun e => ?_, (h1.2 hn).2.2⟩⟩
  rcases hat _ e with e | e
  ·exact (h1.2 hn).2.1 e
  ·have := (h1.2 hn).1; omega
 ·rcases hat k e with e | e
  ·exact h.fo k e e2
  ·have := (h.oo.lt k e2).2; omega
 ·refine ((h.kp.mono (S' := fun k => (k = bm ∨ k = bf ∨ k = bo) ∨ W1.heap.size ≤ k) (fun _ e => .inl e)).trans (hK.mono (S' := fun k => (k = bm ∨ k = bf ∨ k = bo) ∨ W1.heap.size ≤ k) fun k e => ?_)).old fun k hlt e => e.resolve_right (by omega)
  rcases e with e | e
  ·exact .inr (hfo k e)
  ·exact .inl (.inr (.inl e))
 ·rcases hk with e | e | e | e | e | ⟨q, hq, hn, ad, had, e⟩
  ·exact .inl (.inl e)
  ·exact .inl (.inr (.inl e))
  ·exact .inl (.inr (.inr (.inl e)))
  ·rcases hat k e with e | e
   ·exact .inl (.inr (.inr (.inr (.inl e))))
   ·exact .inr (.inl e)
  ·exact .inl (.inr (.inr (.inr (.inr (.inl e)))))
  ·rcases mem_held hq with hq | rfl
   ·exact .inl (.inr (.inr (.inr (.inr (.inr ⟨q, hq, hn, ad, had, e⟩)))))
   ·exact .inr (.inr ⟨hn, ad, had, e⟩)
theorem LostW.pair (h : LostW bp bm bf bo W1 i vf vo fs qs D X) {vo' : Value} {s : PairR} (hK : Keep (fun k => vo.ownBlock = some k ∨ k = bo) X X') (hc : X'.heap[bo]? = some (.cells #[vo'] 47 (0, 0)))
  (ho : X'.ownsRow W1.heap.size 52 2 vo' (qs ++ [s]).length ((qs ++ [s]).flatMap PairR.cells)) (hat : ∀ k, vo'.ownBlock = some k → vo.ownBlock = some k ∨ X.heap.size ≤ k)
  (hp : ∀ p, p = s.p ∨ p = s.q → IsWord X p.1 p.2.1 p.2.2.1 p.2.2.2 ∧ ∀ ad, p.1 = some ad → W1.heap.size ≤ ad.block ∧ ¬ lostT bm bf bo vf vo fs qs ad.block) : LostW bp bm bf bo W1 i vf vo' fs (qs ++ [s]) D X' ∧
   ∀ k, lostT bm bf bo vf vo' fs (qs ++ [s]) k → lostT bm bf bo vf vo fs qs k ∨ X.heap.size ≤ k ∨ ∃ p, (p = s.p ∨ p = s.q) ∧ 0 < p.2.1 ∧ ∃ ad, p.1 = some ad ∧ ad.block = k := by
 have hs := h.kp.size
 have hl := h.lt
 have hfo : ∀ k, vo.ownBlock = some k → W1.heap.size ≤ k := fun k e => (h.oo.lt k e).1
 have hno : ∀ k, k < W1.heap.size → k ≠ bo → ¬ (vo.ownBlock = some k ∨ k = bo) := fun k h1 h2 e => e.elim (fun e => by have := hfo k e; omega) h2
 have hwd : ∀ q ∈ heldL fs (qs ++ [s]), IsWord X q.1 q.2.1 q.2.2.1 q.2.2.2 ∧ ∀ ad, q.1 = some ad → W1.heap.size ≤ ad.block ∧ (0 < q.2.1 → ad.block < X.heap.size ∧ ¬ vf.ownBlock = some ad.block ∧ ¬ vo.ownBlock = some ad.block) := by
  intro q hq
  rcases mem_held2 hq with hq | hq
  ·exact ⟨h.pw q hq, fun ad had => ⟨(h.pd q hq ad had).1, fun hn => ⟨h.wlt hq hn had, (h.pd q hq ad had).2 hn⟩⟩⟩
  ·refine ⟨(hp q hq).1, fun ad had => ⟨((hp q hq).2 ad had).1, fun hn => ⟨?_, fun e => ((hp q hq).2 ad had).2 (.inr (.inr (.inr (.inl e)))), fun e => ((hp q hq).2 ad had).2 (.inr (.inr (.inr (.inr (.inl e)))))⟩⟩⟩
   obtain ⟨b, off, hb, hlt, _⟩ := (hp q hq).1.2.2.2.2 hn
   rw [had] at hb; injection hb with hb; subst hb
   exact hlt
 refine ⟨⟨h.lt, (hK.block _ (lt_of_block h.cp) (hno _ hl.1 hl.2.2.2.2.2.2.1)).trans h.cp, (hK.block _ (lt_of_block h.cf) (hno _ hl.2.2.1 hl.2.2.2.2.2.2.2.2.2)).trans h.cf, hc, ?_,
  own_heap h.of fun k e => hK.block k (h.of.lt k e).2 (fun e2 => e2.elim (fun e2 => h.fo k e e2) (fun e2 => by have := (h.of.lt k e).1; omega)), ho, fun q hq => ?_, fun q hq ad had => ?_, fun k e e2 => ?_, ?_⟩, fun k hk => ?_⟩
 ·obtain ⟨es, clock, hb, r⟩ := h.om
  exact ⟨es, clock, (hK.block _ h.om.lt (hno _ hl.2.1 hl.2.2.2.2.2.2.2.2.1)).trans hb, r⟩
 ·refine (hwd q hq).1.keep hK fun hn ad had e => ?_
  have h1 := (hwd q hq).2 ad had
  rcases e with e | e
  ·exact (h1.2 hn).2.2 e
  ·omega
 ·have h1 := (hwd q hq).2 ad had
  refine ⟨h1.1, fun hn => ⟨(h1.2 hn).2.1, fun e => ?_⟩⟩
  rcases hat _ e with e | e
  ·exact (h1.2 hn).2.2 e
  ·have := (h1.2 hn).1; omega
 ·rcases hat k e2 with e2 | e2
  ·exact h.fo k e e2
  ·have := (h.of.lt k e).2; omega
 ·refine ((h.kp.mono (S' := fun k => (k = bm ∨ k = bf ∨ k = bo) ∨ W1.heap.size ≤ k) (fun _ e => .inl e)).trans (hK.mono (S' := fun k => (k = bm ∨ k = bf ∨ k = bo) ∨ W1.heap.size ≤ k) fun k e => ?_)).old fun k hlt e => e.resolve_right (by omega)
  rcases e with e | e
  ·exact .inr (hfo k e)
  ·exact .inl (.inr (.inr e))
 ·rcases hk with e | e | e | e | e | ⟨q, hq, hn, ad, had, e⟩
  ·exact .inl (.inl e)
  ·exact .inl (.inr (.inl e))
  ·exact .inl (.inr (.inr (.inl e)))
  ·exact .inl (.inr (.inr (.inr (.inl e))))
  ·rcases hat k e with e | e
   ·exact .inl (.inr (.inr (.inr (.inr (.inl e)))))
   ·exact .inr (.inl e)
  ·rcases mem_held2 hq with hq | hq
   ·exact .inl (.inr (.inr (.inr (.inr (.inr ⟨q, hq, hn, ad, had, e⟩)))))
   ·exact .inr (.inr ⟨q, hq, hn, ad, had, e⟩)
theorem LostW.below (h : LostW bp bm bf bo W1 i vf vo fs qs D X) (hb : Below X.heap.size X X') : LostW bp bm bf bo W1 i vf vo fs qs D X' := h.keep (keep_of_below hb)
end
end Go.Proofs.YtlgliddhideflaaGreatDoor
namespace Go.Proofs
open Go.Shelf
def Tryz.lays169_ren : Go.Shelf.Ren := ⟨fun | 169 => 171 | n => n, fun | 70 => 200 | 9 => 9 | 0 => 0 | 72 => 202 | 37 => 101 | 127 => 237 | 3 => 3 | 5 => 5 | n => n, fun | n => n⟩
theorem Tryz.lays169 : Go.Proofs.Lays.n169 Tryz.prog Tryz.lays169_ren := {
 mixed := by kernel_rfl
 f169 := Tryz.func171.trans (congrArg some (by kernel_rfl))
 t0 := Tryz.underlying0
 a0 := Tryz.isAgg0
 z0 := Tryz.sizeOf0
 v0 := Tryz.zeroValue0
 t3 := Tryz.underlying3
 a3 := Tryz.isAgg3
 z3 := Tryz.sizeOf3
 v3 := Tryz.zeroValue3
 t9 := Tryz.underlying9
 a9 := Tryz.isAgg9
 z9 := Tryz.sizeOf9
 v9 := Tryz.zeroValue9
 t37 := Tryz.underlying101
 a37 := Tryz.isAgg101
 z37 := Tryz.sizeOf101
 v37 := Tryz.zeroValue101
 t70 := Tryz.underlying200
 a70 := Tryz.isAgg200
 z70 := Tryz.sizeOf200
 v70 := Tryz.zeroValue200
 t72 := Tryz.underlying202
 a72 := Tryz.isAgg202
 z72 := Tryz.sizeOf202
 v72 := Tryz.zeroValue202
 t127 := Tryz.underlying237
 a127 := Tryz.isAgg237
 z127 := Tryz.sizeOf237
 v127 := Tryz.zeroValue237 }
end Go.Proofs
namespace Go.Proofs.YtlgliddhideflaaGreatDoor
open Go.RowKit Go.Shelf
theorem bldX169 : Builder.Extra Tryz.prog Tryz.lays169_ren where
 sizeBuilder := by kernel_rfl
 liesBuilder := by kernel_rfl
 t5 := Tryz.underlying5
 a5 := Tryz.isAgg5
 z5 := Tryz.sizeOf5
 v5 := Tryz.zeroValue5
 infoByte := by kernel_rfl
 cellsByte := by kernel_rfl
 sizeByte := by kernel_rfl
 neB5 := by decide
theorem byte_info : (Tryz.prog.info? 5).map (fun i => (i.zero, i.size, i.bytes)) = some (some (.int .u8 0), 1, 1) := by kernel_rfl
theorem chkUsed_c (b : Nat) (w : World) (h : w.cell? ⟨b, 0, none⟩ = some (.pointer (some ⟨b, 0, none⟩))) :
  Calls Tryz.prog 206 #[.pointer (some ⟨b, 0, none⟩)] w fun e w' => e = .returned (.tuple #[]) ∧ w' = w := by
 obtain ⟨i, hi, -⟩ := Option.map_eq_some_iff.1 bldX169.sizeBuilder
 go_enter Tryz.func206, Tryz.ntmps206
 go_wp2
 rw [Lib.run_neq_ptr_same w _ Tryz.underlying200 hi]
 go_wp2
 go_end0
 exact ⟨rfl, rfl⟩
theorem chkFresh_c (b : Nat) (w : World) (h : w.cell? ⟨b, 0, none⟩ = some (.pointer none)) (hs : w.shape? b = some (202, 2)) (hf : w.frozen? ⟨b, 0, none⟩ = false) :
  Calls Tryz.prog 206 #[.pointer (some ⟨b, 0, none⟩)] w fun e w' => e = .returned (.tuple #[]) ∧ w' = w.setCell ⟨b, 0, none⟩ (.pointer (some ⟨b, 0, none⟩)) := by
 obtain ⟨i, hi, hz⟩ := Option.map_eq_some_iff.1 bldX169.sizeBuilder
 go_enter Tryz.func206, Tryz.ntmps206
 go_wp2
 rw [Lib.run_to_unsafe w ⟨b, 0, none⟩ Tryz.underlying200 Tryz.underlying257 hi (by rw [hz]; decide) hs (Nat.zero_lt_succ 1)]
 simp only [Result.andThen]
 rw [Oper.upon_value]
 go_wp2
 rw [run_callFunc_extern Tryz.func236 (by kernel_rfl) (by kernel_rfl) (by kernel_rfl) (e := Extern.AbiNoEscape.same) (by kernel_rfl), Lib.run_noEscape]
 simp only [Result.andThen]
 rw [Oper.upon_value]
 go_wp2
 rw [Lib.run_from_unsafe w ⟨b, 0, none⟩ Tryz.underlying257 Tryz.underlying200 hi hs bldX169.liesBuilder]
 simp only [Result.andThen]
 rw [Oper.upon_value]
 go_wp2
 go_end0
 exact ⟨rfl, rfl⟩
theorem chk_c (B b : Nat) (bs : List Value) (w : World) (h : Lib.IsBuilderF 202 5 B b bs w) :
  Calls Tryz.prog 206 #[.pointer (some ⟨b, 0, none⟩)] w fun e w' => e = .returned (.tuple #[]) ∧ (Lib.BuilderAtF 202 5 B b (.pointer (some ⟨b, 0, none⟩)) bs w' ∧ Below B w w' ∧ Lib.OthersKept 5 (some b) w w') := by
 cases h with
 | inl h =>
  refine (chkFresh_c b w h.cell0 h.shape h.frozen0).mono ?_
  rintro e w' ⟨he, hw⟩
  subst he hw
  exact ⟨rfl, h.used _, (Below.refl B w).setCell (p := ⟨b, 0, none⟩) h.1 _, (Lib.OthersKept.refl _ _ w).setCell ⟨b, 0, none⟩ rfl _⟩
 | inr h =>
  refine (chkUsed_c b w h.cell0).mono ?_
  rintro e w' ⟨he, hw⟩
  subst he hw
  exact ⟨rfl, h, Below.refl B _, Lib.OthersKept.refl _ _ _⟩
theorem wrByte_c (B b : Nat) (bs : List Value) (c : Int) (w : World) (h : Lib.IsBuilderF 202 5 B b bs w) (hlen : bs.length + 1 ≤ 4096) (hBw : B ≤ w.heap.size) :
  Calls Tryz.prog 170 #[.pointer (some ⟨b, 0, none⟩), .int .u8 c] w fun e w' => e = .returned .nilIface ∧ (Lib.IsBuilderF 202 5 B b (bs ++ [.int .u8 c]) w' ∧ Below B w w' ∧ Lib.OthersKept 5 (some b) w w') := by
 obtain ⟨i0, hi, hz0, hz1, hz2⟩ := info_parts byte_info
 go_enter Tryz.func170, Tryz.ntmps170
 go_wp2_with fail
 refine (chk_c B b bs _ h).mono ?_
 rintro e w1 ⟨he, ⟨hB, v, hk, ho, hne⟩, hb1, hk1⟩
 subst he
 have hw1 := hb1.size
 have hlt := lt_of_block hk
 have c0 : w1.cell? ⟨b, 0, none⟩ = some (.pointer (some ⟨b, 0, none⟩)) := by rw [Lib.cell_of_heap hk]; rfl
 have c1 : w1.cell? ⟨b, 1, none⟩ = some v := by rw [Lib.cell_of_heap hk]; rfl
 go_wp2_with (at_builtin; refine wpList_append_ownF _ rfl _ _ 101 rfl B 5 i0 (.int .u8 0) 1 1 Tryz.underlying101 hi hz0 hz1 hz2 rfl (by decide) _ _ _ rfl (ho.alloc _) ⟨w1.heap.size, 0, none⟩ 1 1 [.int .u8 c] rfl rfl ?d1 ?d2 ?d3 ?d4 ?d5 ?_)
 case d1 => exact cell_one_new _ _ _
 case d2 => intro u hu; simp at hu; subst hu; rfl
 case d3 => unfold maxLen; omega
 case d4 => omega
 case d5 => simp; omega
 intro v' w2 ho2 hg _
 obtain ⟨g, cap, rfl⟩ : ∃ g cap, v' = .slice (some ⟨g, 0, none⟩) (bs.length + 1) cap := by
  rcases ho2.2 with ⟨_, h0⟩ | ⟨g, cap, cur, fz, hv, _⟩
  ·omega
  ·exact ⟨g, cap, hv⟩
 have hk2 : w2.heap[b]? = some (.cells #[.pointer (some ⟨b, 0, none⟩), v] 202 (0, 0)) :=
  (hg.block b (by simp; omega) (fun e => hne e.symm)).trans ((heap_old_at hlt).trans hk)
 have d0 : w2.cell? ⟨b, 0, none⟩ = some (.pointer (some ⟨b, 0, none⟩)) := by rw [Lib.cell_of_heap hk2]; rfl
 have d1 : w2.cell? ⟨b, 1, none⟩ = some v := by rw [Lib.cell_of_heap hk2]; rfl
 have f1 : w2.frozen? ⟨b, 1, none⟩ = false := Lib.frozen_of_heap hk2 1
 go_wp2
 go_ret
 refine ⟨rfl, .inr (Lib.BuilderAtF.put hB hk2 (by simpa using ho2) (by decide)), ?_, ((hk1.alloc _).grown hg (Lib.ownsRowF_kind (ho.alloc _))).setCell ⟨b, 1, none⟩ rfl _⟩
 exact ((hb1.alloc (by omega) _).grown hg (by simp; omega) (fun k hk => (ho.lt k hk).1)).setCell (p := ⟨b, 1, none⟩) hB _
theorem bldStr_c (B b : Nat) (l : List UInt8) (w : World) (h : Lib.IsBuilderF 202 5 B b (Lib.byteCells l) w) (hBw : B ≤ w.heap.size) :
  Calls Tryz.prog 171 #[.pointer (some ⟨b, 0, none⟩)] w fun e w' => e = .returned (.string ⟨l.toArray⟩) ∧ (Lib.IsBuilderF 202 5 B b (Lib.byteCells l) w' ∧ Below B w w' ∧ Lib.OthersKept 5 (some b) w w') := Any.Builder_String_any_k Tryz.lays169 bldX169 B b l w h hBw
theorem snd_step (p m : Int) : ∀ i : Nat, i < 4 → (sndB (p, m)).take (2 * (i + 1)) = (sndB (p, m)).take (2 * i) ++ [bytU p i, bytU m i]
 | 0, _ => rfl
 | 1, _ => rfl
 | 2, _ => rfl
 | 3, _ => rfl
 | _ + 4, h => by omega
theorem byte_step (T : List UInt8) (p m : Int) (i : Nat) (hi : i < 4) :
  Lib.byteCells (T ++ (sndB (p, m)).take (2 * i)) ++ [.int .u8 (p / 2 ^ (8 * i) % 256)] ++ [.int .u8 (m / 2 ^ (8 * i) % 256)] = Lib.byteCells (T ++ (sndB (p, m)).take (2 * (i + 1))) := by
 rw [snd_step p m i hi, ← List.append_assoc, Lib.byteCells_append (T ++ (sndB (p, m)).take (2 * i)), ← bytU_val p i, ← bytU_val m i, List.append_assoc]
 rfl
theorem text_step {xs : List Snd} {j : Nat} {s : Snd} (h : xs[j]? = some s) : textM (xs.take j) ++ (sndB s).take (2 * 4) = textM (xs.take (j + 1)) := by
 unfold textM
 rw [take_snoc' xs j s h, List.flatMap_append, List.flatMap_cons, List.flatMap_nil, List.append_nil]; rfl
theorem text_c (A : Option Addr) (n c : Nat) (xs : List Snd) (w : World) (hx : IsWord w A n c xs) (hn : n ≤ 40) :
  Calls Tryz.prog 126 #[.slice A n c] w fun e w' => e = .returned (.string ⟨(textM xs).toArray⟩) ∧ Below w.heap.size w w' := by
 have HL : Hid (xs.length = n) := hx.len
 have HX := hI hx; clear hx
 go_enter Tryz.func126, Tryz.ntmps126
 go_wp2
 have hb0 : Lib.IsBuilderF 202 5 w.heap.size w.heap.size (Lib.byteCells []) (w.alloc (.cells #[.pointer none, .slice none 0 0] 202)) := Lib.IsBuilderF.of (Lib.fresh_isBuilder 202 5 w)
 have hB0 : Below w.heap.size w (w.alloc (.cells #[.pointer none, .slice none 0 0] 202)) := bel
 go_loopw [9] (fun vi wr => ∃ j : Nat, vi = .int .i64 j ∧ j ≤ n ∧ Lib.IsBuilderF 202 5 w.heap.size w.heap.size (Lib.byteCells (textM (xs.take j))) wr ∧ Below w.heap.size w wr) (fun vi _ => n - (intOf vi).toNat)
 case atStart => exact ⟨0, rfl, Nat.zero_le _, hb0, hB0⟩
 case round =>
  clear hb0 hB0
  obtain ⟨j, rfl, hj, hJI, hB⟩ := hrel
  have hBs := hB.size
  have hlt0 : w.heap.size < wr.heap.size := by rcases hJI with h | h <;> exact h.lt
  by_cases hlt : (j : Int) < (n : Int)
  ·have hjn : j < n := by omega
   obtain ⟨b, off, p, m, rfl, hbl, hs, hcp, hcm⟩ := (HX.out.below hB rr).at_ hjn
   go_wp2_with fail
   have hI2 := hJI.alloc (.cells #[.int .u32 p, .int .u32 m] 24)
   have hg2 : (wr.alloc (.cells #[.int .u32 p, .int .u32 m] 24)).heap[wr.heap.size]? = some (.cells #[.int .u32 p, .int .u32 m] 24 (0, 0)) := heap_new_at rfl
   have hB2 : Below w.heap.size w (wr.alloc (.cells #[.int .u32 p, .int .u32 m] 24)) := hB.alloc hBs _
   generalize (wr.alloc (.cells #[.int .u32 p, .int .u32 m] 24)) = wa at *
   obtain ⟨bs, ebs⟩ : ∃ bs, bs = wr.heap.size := ⟨_, rfl⟩
   rw [← ebs] at hg2 hlt0 ⊢
   clear ebs hJI hcp hcm hbl hB hBs
   have HS := hI hs; clear hs
   go_loopw [13] (fun vi wr2 => ∃ i : Nat, vi = .int .i64 i ∧ i ≤ 4 ∧ Lib.IsBuilderF 202 5 w.heap.size w.heap.size (Lib.byteCells (textM (xs.take j) ++ (sndB (p, m)).take (2 * i))) wr2 ∧ Below w.heap.size w wr2 ∧
    wr2.heap[bs]? = some (.cells #[.int .u32 p, .int .u32 m] 24 (0, 0))) (fun vi _ => 4 - (intOf vi).toNat)
   case atStart => exact ⟨0, rfl, Nat.zero_le _, by simpa using hI2, hB2, hg2⟩
   case round =>
    clear hI2 hB2 hg2
    obtain ⟨i, rfl, hi, hJI, hB, hg⟩ := hrel
    have hBs := hB.size
    have g0 : wr.cell? ⟨bs, 0, none⟩ = some (.int .u32 p) := by rw [Lib.cell_of_heap hg]; rfl
    have g1 : wr.cell? ⟨bs, 1, none⟩ = some (.int .u32 m) := by rw [Lib.cell_of_heap hg]; rfl
    have hln : (Lib.byteCells (textM (xs.take j) ++ (sndB (p, m)).take (2 * i))).length ≤ 2000 := by
     rw [Lib.byteCells_length, List.length_append, textM_len, List.length_take, List.length_take]
     have : (sndB (p, m)).length = 8 := rfl
     omega
    by_cases hi4 : (i : Int) < 4
    ·have hst := byte_step (textM (xs.take j)) p m i (by omega)
     obtain ⟨L0, hL0⟩ : ∃ L0, L0 = Lib.byteCells (textM (xs.take j) ++ (sndB (p, m)).take (2 * i)) := ⟨_, rfl⟩
     rw [← hL0] at hJI hln hst
     have HST := hI hst; clear hst hL0
     go_wp2_with fail
     refine (wrByte_c w.heap.size w.heap.size L0 _ wr hJI (by omega) hBs).mono ?_
     rintro e w2 ⟨rfl, hI2, hb2, hk2⟩
     have hg2 := hk2 bs _ hg (fun e => by have := Option.some.inj e; omega) (fun _ _ e => by injection e with _ e _; cases e)
     have hB2 := hB.trans hb2
     have hBs2 := hB2.size
     have g2 : w2.cell? ⟨bs, 1, none⟩ = some (.int .u32 m) := by rw [Lib.cell_of_heap hg2]; rfl
     clear hJI hb2 hk2 hg hB g0 g1
     go_wp2_with fail
     refine (wrByte_c w.heap.size w.heap.size _ _ w2 hI2 (by simp; omega) hBs2).mono ?_
     rintro e w3 ⟨rfl, hI3, hb3, hk3⟩
     have hg3 := hk3 bs _ hg2 (fun e => by have := Option.some.inj e; omega) (fun _ _ e => by injection e with _ e _; cases e)
     have hB3 := hB2.trans hb3
     rw [HST.out] at hI3
     clear hI2 hb3 hk3 hg2 hB2 g2
     go_wp2
     go_roundw
     case rel => first | exact ⟨i + 1, by go_num, by omega, hI3, hB3, hg3⟩ | ((repeat apply Exists.intro); exact ⟨⟨i + 1, by go_num, by omega, hI3, hB3, hg3⟩, rfl⟩)
     case measure => simp [intOf]; omega
    ·obtain rfl : i = 4 := by omega
     have HTS := hI (text_step HS.out)
     rw [HTS.out] at hJI
     go_wp2_with fail
     refine ⟨⟨j + 1, by go_num, by omega, hJI, hB⟩, ?_⟩
     simp [intOf]; omega
  ·have hjn : j = n := by omega
   have HM : Hid (textM (xs.take j) = textM xs) := by show _ = _; rw [List.take_of_length_le (by rw [HL.out]; omega)]
   rw [HM.out] at hJI
   go_wp2_with fail
   refine (bldStr_c w.heap.size w.heap.size (textM xs) wr hJI hBs).mono ?_
   rintro e w2 ⟨rfl, hI2, hb2, -⟩
   have HB2 := hI (hB.trans hb2)
   clear hJI hI2 hb2 hB
   go_wp2
   go_ret
   exact ⟨rfl, HB2.out⟩
end Go.Proofs.YtlgliddhideflaaGreatDoor
namespace Go.Proofs.YtlgliddhideflaaGreatDoor
open Go.RowKit Go.Shelf
attribute [local go_sem] Oper.semAt_some
theorem pair_info : (Tryz.prog.info? 52).map (fun i => (i.zero, i.size, i.bytes)) = some (some (.agg #[.slice none 0 0, .slice none 0 0]), 2, 48) := by kernel_rfl
theorem Cells.shut {B : Nat} {w w' : World} {A : Option Addr} {n c sz : Nat} {vs : List Value} (h : Cells w A n c sz vs) (hs : Shut B w w') : Cells w' A n c sz vs := by
 obtain ⟨h1, h2, h3, h4, h5⟩ := h
 refine ⟨h1, h2, h3, h4, fun hn => ?_⟩
 obtain ⟨b, off, rfl, hlt, hc⟩ := h5 hn
 refine ⟨b, off, rfl, by rw [hs.size]; exact hlt, fun j v hv => ?_⟩
 rcases hs.block b with e | ⟨_, x, e⟩
 ·exact (World.cell?_of_block e).trans (hc j v hv)
 ·have := hc j v hv
  unfold World.cell? at this
  simp_all
theorem IsPairs.shut {B : Nat} {w w' : World} {A : Option Addr} {n c : Nat} {ss : List PairR} (h : IsPairs w A n c ss) (hs : Shut B w w') : IsPairs w' A n c ss :=
 ⟨⟨h.1.1.shut hs, h.1.2⟩, fun s hs' => ⟨(h.2 s hs').1.shut hs, (h.2 s hs').2.shut hs⟩⟩
theorem PairsOK.low {w : World} {B b : Nat} {v u : Value} {ss : List PairR} (h : PairsOK w B v ss) (hb : b < B) : PairsOK (w.setCell ⟨b, 0, none⟩ u) B v ss := by
 have hk : Keep (fun k => k = b) w (w.setCell ⟨b, 0, none⟩ u) := (Keep.refl (fun k => k = b) w).setCell (p := ⟨b, 0, none⟩) rfl _
 have ha : ∀ p, Aside B v w p → Aside B v (w.setCell ⟨b, 0, none⟩ u) p := fun p hp => ⟨hp.1.keep hk fun hn ad had e => by have := (hp.2 ad had).1; omega, hp.2⟩
 exact ⟨own_heap h.own fun k e => hk.block k (h.own.lt k e).2 (by have := (h.own.lt k e).1; omega), fun s hs => ⟨ha _ (h.pq s hs).1, ha _ (h.pq s hs).2⟩, Nat.le_trans h.sz hk.size⟩
end Go.Proofs.YtlgliddhideflaaGreatDoor
namespace Go.Proofs.YtlgliddhideflaaGreatDoor
open Go.RowKit Go.Shelf Go.Maps Go.WideMaps
theorem LostW.mono {bp bm bf bo : Nat} {W1 : World} {i j : Nat} {vf vo : Value} {fs : List Part} {qs : List PairR} {D : DataW Unit} {X : World} (h : LostW bp bm bf bo W1 i vf vo fs qs D X) (hj : i ≤ j) : LostW bp bm bf bo W1 j vf vo fs qs D X :=
 ⟨h.lt, h.cp, h.cf, h.co, h.om.mono hj, h.of, h.oo, h.pw, h.pd, h.fo, h.kp⟩
theorem key_word (y : List Snd) (hl : y.length ≤ 32) : keyOf Tryz.prog 9 (.string ⟨(textM y).toArray⟩) = some (keyM y) := by
 have h := keyOf_string_mk (P := Tryz.prog) (k := 9) (s := ⟨(textM y).toArray⟩) Tryz.underlying9 (by
  show ((textM y).toArray).size ≤ maxLen
  rw [List.size_toArray, textM_len]; unfold maxLen; omega)
 rw [h]; rfl
theorem look_word {bm i : Nat} {D : DataW Unit} {w : World} (h : w.ownsMap Tryz.prog 9 (plainElem (H := Unit) Tryz.prog 3) bm i D) (y : List Snd) (hl : y.length ≤ 32) :
  ∃ c : Int, (Instr.lookup 157 (.map (some bm)) (.string ⟨(textM y).toArray⟩) true).run Tryz.prog w = .ok (.tuple #[.int .i64 c, .bool (Go.Maps.has D (keyM y))]) w ∧ D.atKey (keyM y) (.lit (.int .i64 0)) = .lit (.int .i64 c) := by
 obtain ⟨v, ps, hrun, hv⟩ := h.look_ok (string_keyed Tryz.underlying9) Tryz.underlying157 (Tryz.zeroValue3 w) (plainElem_int Tryz.underlying3 (by decide)) (key_word y hl)
 obtain ⟨c, rfl, hc, -⟩ := plainElem_int_inv Tryz.underlying3 hv
 simp only [Prod.mk.injEq] at hc
 exact ⟨c, hrun, hc.1⟩
theorem lost1_c (bp bm bf bo : Nat) (W1 : World) (i : Nat) (vf vo : Value) (fs : List Part) (qs : List PairR) (D : DataW Unit) (ds : List (List Snd × List Snd)) (Af : Option Addr) (nf cf : Nat) (x : List Snd) (At : Option Addr) (nt ct : Nat) (y : List Snd) (X : World)
  (h : LostW bp bm bf bo W1 i vf vo fs qs D X) (hP : PlaceOK D ds) (hfd : fs.map Part.word = ds.map (·.1)) (hx : IsWord X Af nf cf x) (hy : IsWord X At nt ct y) (hyu : WordU y) (hyl : y.length ≤ 32) (hdu : ∀ p ∈ ds, WordU p.2) (hdl : ∀ p ∈ ds, p.1.length ≤ 4)
  (hfa : ∀ ad, Af = some ad → W1.heap.size ≤ ad.block ∧ ¬ lostT bm bf bo vf vo fs qs ad.block) (hi : i ≤ 4000) (hfi : fs.length ≤ i) (hqi : qs.length ≤ i) :
  Calls Tryz.prog 125 (#[.slice Af nf cf, .slice At nt ct] ++ #[.pointer (some ⟨bp, 0, none⟩), .pointer (some ⟨bo, 0, none⟩), .pointer (some ⟨bf, 0, none⟩)]) X fun e X' => (∃ v, e = .returned v) ∧ Keep (lostT bm bf bo vf vo fs qs) X X' ∧
   ((∃ p vo' s, ds.find? (fun p => decide (p.2 = y)) = some p ∧ PairR.data s = (p.1, x) ∧ LostW bp bm bf bo W1 (i + 1) vf vo' fs (qs ++ [s]) D X' ∧
    ∀ k, lostT bm bf bo vf vo' fs (qs ++ [s]) k → lostT bm bf bo vf vo fs qs k ∨ X.heap.size ≤ k ∨ (0 < nf ∧ ∃ ad, Af = some ad ∧ ad.block = k)) ∨
    (∃ vf' D', ds.find? (fun p => decide (p.2 = y)) = none ∧ PlaceOK D' (ds ++ [(x, y)]) ∧ LostW bp bm bf bo W1 (i + 1) vf' vo (fs ++ [(Af, nf, cf, x)]) qs D' X' ∧
     ∀ k, lostT bm bf bo vf' vo (fs ++ [(Af, nf, cf, x)]) qs k → lostT bm bf bo vf vo fs qs k ∨ X.heap.size ≤ k ∨ (0 < nf ∧ ∃ ad, Af = some ad ∧ ad.block = k))) := by
 obtain ⟨Ao, ko, rfl⟩ := own_form h.oo
 obtain ⟨A8, k8, rfl⟩ := own_form h.of
 have cp := cell_of_one h.cp
 have hnt : nt ≤ 40 := by have := hy.len; omega
 have HH := hI h; have HP := hI hP; have HFD := hI hfd; have HX := hI hx; have HY := hI hy; have HYU := hI hyu; have HDU := hI hdu; have HDL := hI hdl; have HFA := hI hfa
 clear h hP hfd hx hy hyu hdu hdl hfa
 go_enter Tryz.func125, Tryz.ntmps125
 go_wp2_with fail
 refine plain_region (fun W' => W'.cell? ⟨bp, 0, none⟩ = some (.map (some bm))) (by kernel_rfl) cp (fun hHeld => ?_)
 (refine' anyT_tk 0 rfl ?_; (try simp only [Act.put, nY, nX])); (refine' anyT_tk 1 rfl ?_; (try simp only [Act.put, nY, nX]))
 (refine anyT_sp 2 rfl (fun K' hK' => ?_); simp only [nY]; go_simp)
 refine (text_c At nt ct y _ (HY.out.below (B := X.heap.size) ((Below.refl X.heap.size X).drew) rr) hnt).mono ?_
 rintro e w1 ⟨rfl, hb1⟩
 have hb1' : Below X.heap.size X w1 := (Below.refl X.heap.size X).drew.trans hb1
 have HH1 := hI (HH.out.below hb1')
 have cp1 := cell_of_one HH1.out.cp
 obtain ⟨cc, hrun, hat⟩ := look_word HH1.out.om y hyl
 refine hK' _ _ ⟨.inr cp1, fun _ => ?_⟩
 clear hK' K' cp
 (try simp only [Act.put, nY, nX])
 (refine anyT_sp 3 rfl (fun K' hK' => ?_); simp only [nY]; go_simp)
 refine hK' _ _ ⟨.inr cp1, fun _ => ?_⟩
 clear hK' K' hHeld hrun
 (try simp only [Act.put, nY, nX])
 (refine' anyT_tk 4 rfl ?_; (try simp only [Act.put, nY, nX])); (refine' anyT_tk 5 rfl ?_; (try simp only [Act.put, nY, nX])); (refine' anyT_tk 6 rfl ?_; (try simp only [Act.put, nY, nX]))
 (refine anyT_sp 7 rfl (fun K' hK' => ?_); simp only [nY]; go_simp)
 refine hK' _ _ ⟨.inr cp1, fun _ => ?_⟩
 clear hK' K'
 (try simp only [Act.put, nY, nX])
 (refine anyT_sp 8 rfl (fun K' hK' => ?_); simp only [nY]; go_simp)
 refine hK' _ _ ⟨.inl (by kernel_rfl), fun _ => anyT_done (by kernel_rfl) ?_ _⟩
 clear hK' K'
 rcases find_place HP.out HYU.out with ⟨hh, j, p, hj, hfind, hatj⟩ | ⟨hh, hfind, hany⟩
 ·rw [hh]
  have hcc : cc = (j : Int) := by
   rw [hatj] at hat
   injection hat with hat; injection hat with _ hat
   exact hat.symm
  subst hcc
  clear hat hatj
  have hjd : j < ds.length := (List.getElem?_eq_some_iff.1 hj).1
  have hfl : fs.length = ds.length := by have := congrArg List.length HFD.out; simpa using this
  obtain ⟨⟨Ap, np, cq, wp⟩, hfp⟩ : ∃ q, fs[j]? = some q := ⟨fs[j]'(by omega), List.getElem?_eq_getElem _⟩
  have hwp : wp = p.1 := by
   have h5 := congrArg (fun l : List (List Snd) => l[j]?) HFD.out
   simp only [List.getElem?_map, hfp, hj, Option.map_some, Option.some.injEq] at h5
   exact h5
  have hpw : IsWord w1 Ap np cq wp := HH1.out.pw _ (List.mem_append.2 (.inl (List.mem_of_getElem? hfp)))
  have hnp : np ≤ 4096 := by
   have h5 := HDL.out p (List.mem_of_getElem? hj)
   have h6 := hpw.len
   rw [hwp] at h6; omega
  obtain ⟨gf, of, vv, hA8, hgfl, hvv, hcf⟩ := (Cells.of_own HH1.out.of (by decide)).at1 (k := j) (by omega)
  rw [List.getElem?_map, hfp] at hvv
  have hcf' : w1.cell? ⟨gf, of + j, none⟩ = some (.slice Ap np cq) := by rw [hcf, ← hvv]; rfl
  clear hvv
  subst hA8
  have co1 := cell_of_one HH1.out.co
  have cf1 := cell_of_one HH1.out.cf
  have HPW := hI hpw; have HWP := hI hwp; have HFIND := hI hfind
  have hjn : j < fs.length := by omega
  clear hpw hwp hfind hfp hj hcf hh cp1 hjd hfl
  go_wp2_with fail
  refine plain_region (fun W' => W'.cell? ⟨bo, 0, none⟩ = some (.slice Ao qs.length ko) ∧ W'.cell? ⟨bf, 0, none⟩ = some (.slice (some ⟨gf, of, none⟩) fs.length k8) ∧ W'.cell? ⟨gf, of + j, none⟩ = some (.slice Ap np cq)) (by kernel_rfl) ⟨co1, cf1, hcf'⟩ (fun hHeld => ?_)
  (refine' anyT_tk 0 rfl ?_; (try simp only [Act.put, nY, nX])); (refine' anyT_tk 1 rfl ?_; (try simp only [Act.put, nY, nX])); (refine' anyT_tk 2 rfl ?_; (try simp only [Act.put, nY, nX])); (refine' anyT_tk 3 rfl ?_; (try simp only [Act.put, nY, nX])); (refine' anyT_tk 4 rfl ?_; (try simp only [Act.put, nY, nX])); (refine' anyT_tk 6 rfl ?_; (try simp only [Act.put, nY, nX]))
  (refine anyT_sp 5 rfl (fun K' hK' => ?_); simp only [nY]; go_simp)
  refine (clone_c Ap np cq wp _ (HPW.out.below (B := w1.heap.size) ((Below.refl w1.heap.size w1).drew) rr) hnp).mono ?_
  rintro e w2 ⟨A3, n3, c3, rfl, hw3, hb3, hf3⟩
  have hb3' : Below w1.heap.size w1 w2 := (Below.refl w1.heap.size w1).drew.trans hb3
  have HH2 := hI (HH1.out.below hb3')
  have co2 := cell_of_one HH2.out.co
  have cf2 := cell_of_one HH2.out.cf
  have cr2 : w2.cell? ⟨gf, of + j, none⟩ = some (.slice Ap np cq) := (World.cell?_of_block (hb3'.block gf hgfl)).trans hcf'
  refine hK' _ _ ⟨.inr ⟨co2, cf2, cr2⟩, fun _ => ?_⟩
  clear hK' K' hHeld co1 cf1 hcf'
  (try simp only [Act.put, nY, nX])
  have hHeld : w2.cell? ⟨bo, 0, none⟩ = some (.slice Ao qs.length ko) ∧ w2.cell? ⟨bf, 0, none⟩ = some (.slice (some ⟨gf, of, none⟩) fs.length k8) ∧ w2.cell? ⟨gf, of + j, none⟩ = some (.slice Ap np cq) := ⟨co2, cf2, cr2⟩
  (refine' anyT_tk 7 rfl ?_; (try simp only [Act.put, nY, nX]))
  (refine anyT_sp 8 rfl (fun K' hK' => ?_); simp only [nY]; go_simp)
  have HH3 := hI (HH2.out.below (X' := w2.alloc (.cells #[.slice A3 n3 c3, .slice Af nf cf] 52)) ((Below.refl _ _).alloc rr _))
  have hz1 : ∀ u : Nat, u < 2 → ∀ v, [Value.slice A3 n3 c3, Value.slice Af nf cf][u]? = some v → (w2.alloc (.cells #[.slice A3 n3 c3, .slice Af nf cf] 52)).cell? ⟨w2.heap.size, u, none⟩ = some v := fun u _ v hv => cell_new_at (by simpa using hv)
  have co3 := cell_of_one HH3.out.co
  have cf3 := cell_of_one HH3.out.cf
  have hgf2 : gf < w2.heap.size := Nat.lt_of_lt_of_le hgfl hb3'.size
  have cr3 : (w2.alloc (.cells #[.slice A3 n3 c3, .slice Af nf cf] 52)).cell? ⟨gf, of + j, none⟩ = some (.slice Ap np cq) := (cell_new_block (by simpa using hgf2)).trans cr2
  have hz3 : (w2.alloc (.cells #[.slice A3 n3 c3, .slice Af nf cf] 52)).heap.size = w2.heap.size + 1 := by simp
  have hk3 : Below w2.heap.size w2 (w2.alloc (.cells #[.slice A3 n3 c3, .slice Af nf cf] 52)) := (Below.refl _ _).alloc rr _
  refine hK' _ _ ⟨.inr ⟨co3, cf3, cr3⟩, fun _ => ?_⟩
  clear hK' K' hHeld co2 cf2 cr2
  (try simp only [Act.put, nY, nX])
  generalize (w2.alloc (.cells #[.slice A3 n3 c3, .slice Af nf cf] 52)) = w3 at *
  refine anyT_sp 9 rfl (fun K' hK' => ?_)
  rw [if_pos (by rfl)]
  have hW3 := HH3.out.kp.size
  refine wp_append_own_at (.tmp 17) (.tmp 25) 47 rfl W1.heap.size 52 (.agg #[.slice none 0 0, .slice none 0 0]) 2 48 Tryz.underlying47 pair_info rfl (by decide) (.slice Ao qs.length ko) qs.length (qs.flatMap PairR.cells) (by rfl) HH3.out.oo ⟨w2.heap.size, 0, none⟩ 1 1 [.slice A3 n3 c3, .slice Af nf cf] (by rfl) rfl
   (fun u v hv => by
    match u, hv with
    | 0, hv => simpa [Addr.add] using hz1 0 (by omega) v hv
    | 1, hv => simpa [Addr.add] using hz1 1 (by omega) v hv
    | u + 2, hv => simp at hv) (by intro u hu; simp at hu; rcases hu with rfl | rfl <;> rfl) (by unfold maxLen; omega) (by omega) hW3 ?_
  intro vo' X2 hown hg _ hat
  obtain ⟨A9, k9, rfl⟩ := own_form hown
  have hl := HH3.out.lt
  have hlow : ∀ k, (Value.slice Ao qs.length ko).ownBlock = some k → W1.heap.size ≤ k := fun k e => (HH3.out.oo.lt k e).1
  have x2 : ∀ k, k < w3.heap.size → (Value.slice Ao qs.length ko).ownBlock ≠ some k → X2.heap[k]? = w3.heap[k]? := fun k hk hn => hg.block k hk (fun e => hn e.symm)
  have xo := (x2 bo (lt_of_block HH3.out.co) (fun e => by have := hlow _ e; omega)).trans HH3.out.co
  have xf := (x2 bf (lt_of_block HH3.out.cf) (fun e => by have := hlow _ e; omega)).trans HH3.out.cf
  have xr : X2.cell? ⟨gf, of + j, none⟩ = some (.slice Ap np cq) := (World.cell?_of_block (x2 gf (by omega) (fun e => HH3.out.fo gf rfl e))).trans cr3
  have co4 := cell_of_one xo
  have fo4 := free_of_one xo
  have cf4 := cell_of_one xf
  have hK3 : Keep (fun k => (Value.slice Ao qs.length ko).ownBlock = some k ∨ k = bo) w3 (X2.setCell ⟨bo, 0, none⟩ (.slice A9 (qs.length + 1) k9)) := (((Keep.refl (fun k => (Value.slice Ao qs.length ko).ownBlock = some k) w3).grown hg (fun k e => .inl e)).mono fun k e => .inl e).setCell (p := ⟨bo, 0, none⟩) (.inr rfl) _
  have hwb : Below X.heap.size X w3 := (hb1'.trans (hb3'.mono hb1'.size)).trans (hk3.mono (by have := hb1'.size; have := hb3'.size; omega))
  have hdz : w1.drew.heap.size = w1.heap.size := rfl
  rw [hdz] at hf3
  have hs1 := hb1'.size
  have hs3 := hb3'.size
  have hltT := HH1.out.lts
  have hWX := HH1.out.kp.size
  obtain ⟨p1, p2⟩ := HH3.out.pair (s := ⟨(A3, n3, c3, wp), (Af, nf, cf, x)⟩) hK3 (one_setCell xo) (by
    rw [List.length_append, List.length_singleton, List.flatMap_append, List.flatMap_singleton]
    exact own_heap (w := X2) hown fun k e => Below.heap_setCell _ _ _ _ (by have := (hown.lt k e).1; simp; omega)) (fun k e => by
    rcases hat with h | h
    ·exact .inl (by rw [← h]; exact e)
    ·rw [h] at e; injection e with e; exact .inr (by omega)) (fun q hq => by
    rcases hq with rfl | rfl
    ·exact ⟨hw3.below hk3 rr, fun ad had => by
      have h5 := hf3 ad had
      exact ⟨by omega, fun e => by have := hltT _ e; omega⟩⟩
    ·exact ⟨HX.out.below hwb rr, HFA.out⟩)
  have P1 := hI p1
  have P2 : Hid (∀ k, lostT bm bf bo (.slice (some ⟨gf, of, none⟩) fs.length k8) (.slice A9 (qs.length + 1) k9) fs (qs ++ [⟨(A3, n3, c3, wp), (Af, nf, cf, x)⟩]) k → lostT bm bf bo (.slice (some ⟨gf, of, none⟩) fs.length k8) (.slice Ao qs.length ko) fs qs k ∨ X.heap.size ≤ k ∨ (0 < nf ∧ ∃ ad, Af = some ad ∧ ad.block = k)) := fun k hk => by
   rcases p2 k hk with h | h | ⟨q, rfl | rfl, hn, ad, had, h⟩
   ·exact .inl h
   ·exact .inr (.inl (by omega))
   ·exact .inr (.inl (by have := hf3 ad had; omega))
   ·exact .inr (.inr ⟨hn, ad, had, h⟩)
  have P3 : Hid (Keep (lostT bm bf bo (.slice (some ⟨gf, of, none⟩) fs.length k8) (.slice Ao qs.length ko) fs qs) X (X2.setCell ⟨bo, 0, none⟩ (.slice A9 (qs.length + 1) k9))) := (keep_of_below hwb).trans (hK3.mono fun k e => e.elim (fun e => .inr (.inr (.inr (.inr (.inl e))))) (fun e => .inr (.inr (.inl e))))
  clear p1 p2 hK3 hown hg hat x2 xo xf hlow hw3 hb3 hb3' hf3 hk3 hwb hz1 hdz hltT
  refine hK' _ _ ⟨.inr ⟨co4, cf4, xr⟩, fun _ => ?_⟩
  clear hK' K' co3 cf3 cr3
  (try simp only [Act.put, nY, nX])
  (refine anyT_sp 10 rfl (fun K' hK' => ?_); simp only [nY]; go_simp)
  refine hK' _ _ ⟨.inl (by kernel_rfl), fun _ => anyT_done (by kernel_rfl) ?_ _⟩
  clear hK' K' co4 fo4 cf4 xr
  go_wp2
  refine bodyPost_ret (results_none rfl _ _ _) rfl ?_
  exact ⟨⟨_, rfl⟩, P3.out, .inl ⟨p, _, _, HFIND.out, by show (wp, x) = _; rw [HWP.out], P1.out.mono (Nat.le_succ _), P2.out⟩⟩
 ·rw [hh]
  have hfl : fs.length = ds.length := by have := congrArg List.length HFD.out; simpa using this
  have HFIND := hI hfind; have HANY := hI hany
  have cf1 := cell_of_one HH1.out.cf
  clear hfind hany hat hh
  have HFL := hI hfl; clear hfl
  go_wp2_with fail
  refine plain_region (fun W' => W'.cell? ⟨bp, 0, none⟩ = some (.map (some bm)) ∧ W'.cell? ⟨bf, 0, none⟩ = some (.slice A8 fs.length k8)) (by kernel_rfl) ⟨cp1, cf1⟩ (fun hHeld => ?_)
  (refine' anyT_tk 0 rfl ?_; (try simp only [Act.put, nY, nX])); (refine' anyT_tk 1 rfl ?_; (try simp only [Act.put, nY, nX])); (refine' anyT_tk 3 rfl ?_; (try simp only [Act.put, nY, nX])); (refine' anyT_tk 4 rfl ?_; (try simp only [Act.put, nY, nX]))
  (refine anyT_sp 2 rfl (fun K' hK' => ?_); simp only [nY]; go_simp)
  refine (text_c At nt ct y _ (HY.out.below (B := X.heap.size) (hb1'.trans ((Below.refl w1.heap.size w1).drew.mono hb1'.size)) rr) hnt).mono ?_
  rintro e w2 ⟨rfl, hb2⟩
  have hb2' : Below w1.heap.size w1 w2 := (Below.refl w1.heap.size w1).drew.trans hb2
  have HH2 := hI (HH1.out.below hb2')
  have cp2 := cell_of_one HH2.out.cp
  have cf2 := cell_of_one HH2.out.cf
  refine hK' _ _ ⟨.inr ⟨cp2, cf2⟩, fun _ => ?_⟩
  clear hK' K' hHeld cp1 cf1
  (try simp only [Act.put, nY, nX])
  obtain ⟨w3, hrun, hm3, hg3⟩ := HH2.out.om.update (string_keyed Tryz.underlying9) Tryz.underlying157 (show i < maxLen by unfold maxLen; omega) (key_word y hyl) (plainElem_int (a := (fs.length : Int)) Tryz.underlying3 (WalkArith.wf_i64 (by omega)))
  (refine anyT_sp 5 rfl (fun K' hK' => ?_); simp only [nY]; go_simp)
  have hup := HH2.out.upd hg3 hm3
  have HU := hI hup.1; have HKU := hI hup.2
  have HP2 : Hid (PlaceOK (D.put (keyM y) (.lit (.int .i64 (fs.length : Int)))) (ds ++ [(x, y)])) := by
   have h5 := place_put (x := (x, y)) HP.out HDU.out HYU.out HANY.out
   rw [← HFL.out] at h5
   exact h5
  refine hK' _ _ ⟨.inl (by kernel_rfl), fun _ => anyT_done (by kernel_rfl) ?_ _⟩
  clear hK' K' cp2 cf2 hrun hm3 hg3 hup
  have cf3 := cell_of_one HU.out.cf
  have hs1 := hb1'.size
  have hs2 := hb2'.size
  have hs3 := HKU.out.size
  have hWX := HU.out.kp.size
  have hf3 := lt_of_block HU.out.cf
  have hbm := HU.out.lt.2.1
  have hkw : Keep (fun k => k = bm) X w3 := (keep_of_below (hb1'.trans (hb2'.mono hs1))).trans HKU.out
  have hWX0 := HH.out.kp.size
  have hwx : IsWord w3 Af nf cf x := HX.out.keep hkw fun _ ad had e => by have := (HFA.out ad had).1; omega
  have HWX := hI hwx; have HKW := hI hkw
  clear hb1 hb1' hb2 hb2' hwx hkw
  go_wp2_with (at_builtin; refine append_wd rfl (.tmp 32) (.tmp 34) rfl W1.heap.size (.slice A8 fs.length k8) fs.length (fs.map Part.val) rfl (HU.out.of.alloc _) ⟨w3.heap.size, 0, none⟩ 1 (.slice Af nf cf) rfl (cell_one_new _ _ _) rfl (by omega) ?hz2 ?hc2)
  case hz2 => simp; omega
  case hc2 =>
   intro vf' X2 hown hg hat
   obtain ⟨A9, k9, rfl⟩ := own_form hown
   have hlow : ∀ k, (Value.slice A8 fs.length k8).ownBlock = some k → W1.heap.size ≤ k := fun k e => (HU.out.of.lt k e).1
   have hl := HU.out.lt
   have hn7 : some bf ≠ (Value.slice A8 fs.length k8).ownBlock := fun e => by have := hlow bf e.symm; omega
   have x7 := (hg.block bf (by simp; omega) hn7).trans ((heap_old_at hf3).trans HU.out.cf)
   have c7' := cell_of_one x7
   have f7' := free_of_one x7
   have hK3 : Keep (fun k => (Value.slice A8 fs.length k8).ownBlock = some k ∨ k = bf) w3 (X2.setCell ⟨bf, 0, none⟩ (.slice A9 (fs.length + 1) k9)) := ((((Keep.refl (fun k => (Value.slice A8 fs.length k8).ownBlock = some k) w3).alloc _).grown hg (fun k e => .inl e)).mono fun k e => .inl e).setCell (p := ⟨bf, 0, none⟩) (.inr rfl) _
   obtain ⟨p1, p2⟩ := HU.out.first (p := (Af, nf, cf, x)) hK3 (one_setCell x7) (by
     rw [List.length_append, List.length_singleton, List.map_append, List.map_singleton]
     exact own_heap (w := X2) hown fun k e => Below.heap_setCell _ _ _ _ (by have := (hown.lt k e).1; simp; omega)) (fun k e => by
     rcases hat with h | h
     ·exact .inl (by rw [← h]; exact e)
     ·rw [h] at e; injection e with e; exact .inr (by omega)) HWX.out HFA.out
   have P1 := hI p1
   have P2 : Hid (∀ k, lostT bm bf bo (.slice A9 (fs.length + 1) k9) (.slice Ao qs.length ko) (fs ++ [(Af, nf, cf, x)]) qs k → lostT bm bf bo (.slice A8 fs.length k8) (.slice Ao qs.length ko) fs qs k ∨ X.heap.size ≤ k ∨ (0 < nf ∧ ∃ ad, Af = some ad ∧ ad.block = k)) := fun k hk => by
    rcases p2 k hk with h | h | h
    ·exact .inl h
    ·exact .inr (.inl (by omega))
    ·exact .inr (.inr h)
   have P3 : Hid (Keep (lostT bm bf bo (.slice A8 fs.length k8) (.slice Ao qs.length ko) fs qs) X (X2.setCell ⟨bf, 0, none⟩ (.slice A9 (fs.length + 1) k9))) := (HKW.out.mono fun k e => .inl e).trans (hK3.mono fun k e => e.elim (fun e => .inr (.inr (.inr (.inl e)))) (fun e => .inr (.inl e)))
   clear p1 p2 hK3 hown hg hat x7 cf3
   go_wp2
   refine bodyPost_end (results_none rfl _ _ _) rfl ?_
   exact ⟨⟨_, rfl⟩, P3.out, .inr ⟨_, _, HFIND.out, HP2.out, P1.out, P2.out⟩⟩
theorem seen_in : ∀ (xs fs : List (List Snd × List Snd)), ∀ p ∈ seenGo xs fs, p ∈ xs ∨ p ∈ fs
 | [], fs, p, h => .inr h
 | x :: r, fs, p, h => by
  unfold seenGo at h
  split at h
  ·exact (seen_in r fs p h).imp (fun h => List.mem_cons_of_mem _ h) id
  ·rcases seen_in r (fs ++ [x]) p h with h | h
   ·exact .inl (List.mem_cons_of_mem _ h)
   ·rcases List.mem_append.1 h with h | h
    ·exact .inr h
    ·obtain rfl : p = x := by simpa using h
     exact .inl List.mem_cons_self
def LostJ (bp bm bf bo : Nat) (W1 : World) (L : List (List Snd × List Snd)) (i : Nat) (T : Nat → Prop) (X : World) : Prop :=
 ∃ vf vo fs qs D, T = lostT bm bf bo vf vo fs qs ∧ fs.map Part.word = (seenGo (L.take i) []).map (·.1) ∧ qs.map PairR.data = lostGo (L.take i) [] ∧ PlaceOK D (seenGo (L.take i) []) ∧ fs.length ≤ i ∧ qs.length ≤ i ∧ LostW bp bm bf bo W1 i vf vo fs qs D X
theorem lost_c (A : Option Addr) (n c : Nat) (xs : List LawR) (As : Option Addr) (ns cs : Nat) (ss : List Snd) (k : Int) (w : World) (hx : IsLaws w A n c xs) (hs : IsWord w As ns cs ss) (hT : TabOK w) (hu : WordU ss) :
  Calls Tryz.prog 48 #[.slice A n c, .slice As ns cs, .int .i64 k] w (RetPairs w (lostM (lawsD xs) ss k)) := by
 have HX := hI hx; have HS := hI hs; have HT := hI hT; have HUS := hI hu
 clear hx hs hT hu
 have hmm := @run_makeMap Tryz.prog
 go_enter Tryz.func48, Tryz.ntmps48
 go_wp2_with fail
 clear hmm
 have hB : Below w.heap.size w ((((w.alloc (.map #[] 0)).alloc (.cells #[.map (some w.heap.size)] 157)).alloc (.cells #[.slice none 0 0] 46)).alloc (.cells #[.slice none 0 0] 47)) := bel
 have hsz : ((((w.alloc (.map #[] 0)).alloc (.cells #[.map (some w.heap.size)] 157)).alloc (.cells #[.slice none 0 0] 46)).alloc (.cells #[.slice none 0 0] 47)).heap.size = w.heap.size + 4 := by simp
 have h0 : LostW (w.heap.size + 1) w.heap.size (w.heap.size + 1 + 1) (w.heap.size + 1 + 1 + 1) ((((w.alloc (.map #[] 0)).alloc (.cells #[.map (some w.heap.size)] 157)).alloc (.cells #[.slice none 0 0] 46)).alloc (.cells #[.slice none 0 0] 47)) 0 (.slice none 0 0) (.slice none 0 0) [] [] (.map [])
   ((((w.alloc (.map #[] 0)).alloc (.cells #[.map (some w.heap.size)] 157)).alloc (.cells #[.slice none 0 0] 46)).alloc (.cells #[.slice none 0 0] 47)) :=
  ⟨by rw [hsz]; omega, hpt, hpt, hpt, (((World.ownsMap_made w _ _ _).alloc _).alloc _).alloc _, World.ownsRow_nil _ _ _ _, World.ownsRow_nil _ _ _ _, fun p hp => by simp [heldL] at hp, fun p hp => by simp [heldL] at hp, fun k e => (by cases e), Keep.refl _ _⟩
 generalize ((((w.alloc (.map #[] 0)).alloc (.cells #[.map (some w.heap.size)] 157)).alloc (.cells #[.slice none 0 0] 46)).alloc (.cells #[.slice none 0 0] 47)) = W1 at *
 obtain ⟨bp, ebp⟩ : ∃ b, b = w.heap.size + 1 := ⟨_, rfl⟩
 obtain ⟨bf, ebf⟩ : ∃ b, b = w.heap.size + 1 + 1 := ⟨_, rfl⟩
 obtain ⟨bo, ebo⟩ : ∃ b, b = w.heap.size + 1 + 1 + 1 := ⟨_, rfl⟩
 rw [← ebo, ← ebf, ← ebp] at h0 ⊢
 obtain ⟨bm, ebm⟩ : ∃ b, b = w.heap.size := ⟨_, rfl⟩
 rw [← ebm] at h0 ⊢
 have hbw : w.heap.size ≤ bm ∧ w.heap.size ≤ bf ∧ w.heap.size ≤ bo := by omega
 clear ebp ebf ebo ebm hsz
 have HB := hI hB; have H0 := hI h0
 clear hB h0
 have HTB : Hid (∀ X, Keep (fun b => b = bm ∨ b = bf ∨ b = bo) W1 X → Below w.heap.size w X) := fun X h => HB.out.trans (h.to_below (B := w.heap.size) (fun b hb => by rcases hb with rfl | rfl | rfl <;> omega) HB.out.size)
 refine (became_c A n c xs As ns cs ss k 125 #[.pointer (some ⟨bp, 0, none⟩), .pointer (some ⟨bo, 0, none⟩), .pointer (some ⟨bf, 0, none⟩)] W1 (fun i T X => LostJ bp bm bf bo W1 (outsM11 (lawsD xs) ss k.toNat) i T X)
  (lostT bm bf bo (.slice none 0 0) (.slice none 0 0) [] []) ?hu ?h0 (enters_of Tryz.func125 (by kernel_rfl) rfl)).mono ?_
 case h0 => exact ⟨_, _, [], [], _, rfl, rfl, rfl, place_none, rr, rr, H0.out⟩
 case hu =>
  refine ⟨?hB, ?hlt, ?hst, ?hnd, ?hrd, ?hy⟩
  case hB => rintro i T X ⟨vf, vo, fs, qs, D, rfl, -, -, -, -, -, h⟩; exact h.kp.size
  case hlt => rintro i T X ⟨vf, vo, fs, qs, D, rfl, -, -, -, -, -, h⟩; exact h.lts
  case hst => rintro i T X X' ⟨vf, vo, fs, qs, D, rfl, h1, h2, h3, h4, h5, h⟩ hk; exact ⟨vf, vo, fs, qs, D, rfl, h1, h2, h3, h4, h5, h.keep hk⟩
  case hnd => rintro i T X ⟨vf, vo, fs, qs, D, rfl, -, -, -, -, -, h⟩; exact h.nds
  case hrd =>
   rintro i T X ⟨vf, vo, fs, qs, D, -, -, -, -, -, -, h⟩
   have hX := HTB.out X h.kp
   exact ⟨HX.out.below hX rr, HS.out.below hX rr, HT.out.below hX rr⟩
  case hy =>
   rintro i T X Af nf cf u At nt ct y hr hk4 hxi hwx hwy hfa hft ⟨vf, vo, fs, qs, D, rfl, h1, h2, h3, h4, h5, h⟩
   obtain ⟨hwc, hwr⟩ := (show True ∧ refusedM ss = 0 from ⟨trivial, (wrong_none hr).2.2⟩)
   have hlen := outs_len (ls := lawsD xs) (refused_none hwr).2.2 (refused_none hwr).1 hk4
   have hi : i < (outsM11 (lawsD xs) ss k.toNat).length := (List.getElem?_eq_some_iff.1 hxi).1
   have hof := outs_facts hr hk4 HUS.out (List.mem_of_getElem? hxi)
   have hds : ∀ p ∈ seenGo ((outsM11 (lawsD xs) ss k.toNat).take i) [], p.1.length ≤ 4 ∧ p.2.length ≤ 32 ∧ WordU p.1 ∧ WordU p.2 := fun p hp => by
    rcases seen_in _ _ p hp with h | h
    ·exact outs_facts hr hk4 HUS.out (x := p.1) (y := p.2) (List.mem_of_mem_take h)
    ·simp at h
   refine (lost1_c bp bm bf bo W1 i vf vo fs qs D _ Af nf cf u At nt ct y X h h3 h1 hwx hwy hof.2.2.2 hof.2.1 (fun p hp => (hds p hp).2.2.2) (fun p hp => (hds p hp).1) hfa (by omega) h4 h5).mono ?_
   rintro e W'' ⟨hv, hK, ⟨p, vo', s, hf, hsd, hW, hb⟩ | ⟨vf', D', hf, hP', hW, hb⟩⟩
   ·have hsn := lost_snoc_some (x := (u, y)) (P := (outsM11 (lawsD xs) ss k.toNat).take i) hf
    have htk := take_snoc' _ i _ hxi
    rw [← htk] at hsn
    exact ⟨hv, hK, _, ⟨vf, vo', fs, qs ++ [s], D, rfl, by rw [hsn.2]; exact h1, by rw [hsn.1, List.map_append, h2, List.map_singleton, hsd], by rw [hsn.2]; exact h3, by omega, by rw [List.length_append]; simp; omega, hW⟩,
     fun b hb' => (hb b hb').imp id fun h => h.imp id .inl⟩
   ·have hsn := lost_snoc_none (x := (u, y)) (P := (outsM11 (lawsD xs) ss k.toNat).take i) hf
    have htk := take_snoc' _ i _ hxi
    rw [← htk] at hsn
    exact ⟨hv, hK, _, ⟨vf', vo, fs ++ [(Af, nf, cf, u)], qs, D', rfl, by rw [hsn.2, List.map_append, List.map_append, h1]; rfl, by rw [hsn.1]; exact h2, by rw [hsn.2]; exact hP', by rw [List.length_append]; simp; omega, by omega, hW⟩,
     fun b hb' => (hb b hb').imp id fun h => h.imp id .inl⟩
 rintro e X ⟨rfl, i, T, ⟨vf, vo, fs, qs, D, -, -, hqs, -, -, -, hL⟩, hi⟩
 obtain ⟨Ao, ko, rfl⟩ := own_form hL.oo
 have HBX := hI (HTB.out X hL.kp)
 have co := cell_of_one hL.co
 have HPA : Hid (IsPairs X Ao qs.length ko qs) := ⟨Recs.of_own hL.oo PairR.len (by decide), fun s hs => ⟨hL.pw _ (List.mem_append.2 (.inr (List.mem_flatMap.2 ⟨s, hs, by simp⟩))), hL.pw _ (List.mem_append.2 (.inr (List.mem_flatMap.2 ⟨s, hs, by simp⟩)))⟩⟩
 obtain ⟨er, her⟩ : ∃ er, er = shortM (lawsD xs) ss k := ⟨_, rfl⟩
 rw [← her] at hi ⊢
 have HER := hI her; clear her
 by_cases h0 : er = 0
 ·have h1 : (er != 0) = false := by simpa using h0
  have HM : Hid (lostM (lawsD xs) ss k = (0, qs.map PairR.data)) := by
   show _ = _
   unfold lostM
   rw [← HER.out, if_neg (by simpa using h0), hqs, hi h0, List.take_length]
  clear h0 hi hqs hL
  go_wp2
  exact bodyPost_ret (results_tmp2 Tryz.results48 _ _ _) rfl ⟨Ao, qs.length, ko, qs, by rw [HM.out]; rfl, by rw [HM.out], HPA.out, HBX.out⟩
 ·have h1 : (er != 0) = true := by simpa using h0
  have HM : Hid (lostM (lawsD xs) ss k = (er, [])) := by show _ = _; unfold lostM; rw [← HER.out, if_pos h0]
  clear h0 hi hqs hL co
  go_wp2
  exact bodyPost_ret (results_tmp2 Tryz.results48 _ _ _) rfl ⟨none, 0, 0, [], by rw [HM.out]; rfl, by rw [HM.out]; rfl, ⟨⟨Cells.nil _ _, rfl⟩, fun s hs => by simp at hs⟩, HBX.out⟩
end Go.Proofs.YtlgliddhideflaaGreatDoor

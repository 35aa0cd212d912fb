/-
  ablautref08: right, left.
  ablautref08: left.
  ablautref08: all: what it keeps.
  ablautref08: all.
  ablautref08: Trace, Apply.
-/
import Derived.Test.YtlgliddhideflaaGreatDoorG26
import Derived.Test.YtlgliddhideflaaGreatDoorG38
set_option linter.all false
set_option maxRecDepth 100000
set_option maxHeartbeats 4000000
namespace Go.Proofs.YtlgliddhideflaaGreatDoor
open Go.RowKit Go.Shelf
structure TrOK (w : World) (B : Nat) (vp vw : Value) (np : Nat) (ps : List Part) : Prop where
 op : ∃ xs, w.ownsRow B 3 1 vp np xs
 ow : w.ownsRow B 32 1 vw ps.length (ps.map Part.val)
 ne : ∀ k, vp.ownBlock = some k → ¬ vw.ownBlock = some k
 pp : ∀ p ∈ ps, Away vp w p ∧ Away vw w p
 sz : B ≤ w.heap.size
theorem TrOK.nil (w : World) : TrOK w w.heap.size (.slice none 0 0) (.slice none 0 0) 0 [] :=
 ⟨⟨[], World.ownsRow_nil _ _ _ _⟩, World.ownsRow_nil _ _ _ _, fun k h => (by cases h), fun p hp => by simp at hp, rr⟩
theorem TrOK.below {w w' : World} {B np : Nat} {vp vw : Value} {ps : List Part} (h : TrOK w B vp vw np ps) (hb : Below w.heap.size w w') : TrOK w' B vp vw np ps := by
 obtain ⟨xs, ho⟩ := h.op
 exact ⟨⟨xs, own_heap ho fun k e => hb.block k (ho.lt k e).2⟩, own_heap h.ow fun k e => hb.block k (h.ow.lt k e).2, h.ne, fun p hp => ⟨(h.pp p hp).1.below hb, (h.pp p hp).2.below hb⟩, Nat.le_trans h.sz hb.size⟩
theorem TrOK.lts {w : World} {B np : Nat} {vp vw : Value} {ps : List Part} (h : TrOK w B vp vw np ps) : (∀ k, vp.ownBlock = some k → B ≤ k ∧ k < w.heap.size) ∧ ∀ k, vw.ownBlock = some k → B ≤ k ∧ k < w.heap.size := by
 obtain ⟨xs, ho⟩ := h.op
 exact ⟨fun k e => ho.lt k e, fun k e => h.ow.lt k e⟩
theorem TrOK.words {w : World} {B np n c : Nat} {vp : Value} {A : Option Addr} {ps : List Part} (h : TrOK w B vp (.slice A n c) np ps) (hn : n = ps.length) : IsWords w A n c (ps.map Part.word) := by
 subst hn
 exact IsWords.mk (Cells.of_own h.ow (by decide)) (fun p hp => (h.pp p hp).1.1)
end Go.Proofs.YtlgliddhideflaaGreatDoor
namespace Go.Proofs.YtlgliddhideflaaGreatDoor
open Go.RowKit Go.Shelf
end Go.Proofs.YtlgliddhideflaaGreatDoor
namespace Go.Proofs.YtlgliddhideflaaGreatDoor
open Go.RowKit Go.Shelf
section at_
variable {P : Program} (w : World)
end at_
structure AlOK (w : World) (B : Nat) (vp vw vo : Value) (np : Nat) (ps : List Part) (no : Nat) (out : List Snd) : Prop where
 tr : TrOK w B vp vw np ps
 oo : w.ownsRow B 24 2 vo no (wcells out)
 on : ∀ k, vo.ownBlock = some k → ¬ vp.ownBlock = some k ∧ ¬ vw.ownBlock = some k
 fr : ∀ p ∈ ps, Away vo w p
theorem AlOK.nil (w : World) : AlOK w w.heap.size (.slice none 0 0) (.slice none 0 0) (.slice none 0 0) 0 [] 0 [] :=
 ⟨TrOK.nil w, World.ownsRow_nil _ _ _ _, fun k h => (by cases h), fun p hp => by simp at hp⟩
section al
variable {w w' X : World} {B np no : Nat} {vp vw vo vp' vw' vo' : Value} {ps : List Part} {out out' : List Snd}
theorem AlOK.below (h : AlOK w B vp vw vo np ps no out) (hb : Below w.heap.size w w') : AlOK w' B vp vw vo np ps no out :=
 ⟨h.tr.below hb, own_heap h.oo fun k e => hb.block k (h.oo.lt k e).2, h.on, fun p hp => (h.fr p hp).below hb⟩
end al
def AllAt (l : LawD) (ws : List Snd) (p : Nat) (out : List Snd) (done : List (Int × List Snd)) : Prop :=
 (runM l ws 80 (startM l ws) = (done, false) ∧ ws.length < p + l.ifs.length) ∨
 ∃ nx sh, SoFar l ws ⟨p, nx, sh, out ++ ws.drop p⟩ done ∧ nx ≤ p ∧ (out.length : Int) = p + sh ∧ p + l.ifs.length ≤ ws.length
section allat
variable {l : LawD} {ws out : List Snd} {done : List (Int × List Snd)} {p : Nat}
theorem fin1 (hm : l.mode = 1) (p : Nat) (nx sh : Int) (now : List Snd) : finM l ws ⟨p, nx, sh, now⟩ = decide (ws.length < p + l.ifs.length) := by
 unfold finM; rw [if_pos hm]; simp only; exact decide_eq_decide.2 (by omega)
theorem AllAt.of (hm : l.mode = 1) {nx sh : Int} (h : SoFar l ws ⟨p, nx, sh, out ++ ws.drop p⟩ done) (hn : nx ≤ p) (ho : p + l.ifs.length ≤ ws.length → (out.length : Int) = p + sh) : AllAt l ws p out done := by
 by_cases hf : ws.length < p + l.ifs.length
 ·exact .inl ⟨h.fin (by rw [fin1 hm]; simpa using hf), hf⟩
 ·exact .inr ⟨nx, sh, h, hn, ho (by omega), by omega⟩
theorem AllAt.start (hm : l.mode = 1) (hw : ws.length ≤ 32) : AllAt l ws 0 [] [] := by
 have h := SoFar.start l ws hw
 have e : startM l ws = ⟨0, 0, 0, ws⟩ := by unfold startM; rw [if_neg (by rw [hm]; decide)]
 refine AllAt.of hm (nx := 0) (sh := 0) ?_ (by omega) (fun _ => rfl)
 rw [e] at h
 exact h
theorem SoFar.jump (hm : l.mode = 1) {nx sh : Int} {now : List Snd} : ∀ (d p : Nat), SoFar l ws ⟨p, nx, sh, now⟩ done → (p : Int) + d ≤ nx → (runM l ws 80 (startM l ws) = (done, false) ∧ ws.length < p + d + l.ifs.length) ∨ SoFar l ws ⟨(p + d : Nat), nx, sh, now⟩ done
 | 0, p, h, _ => .inr h
 | d + 1, p, h, hn => by
  by_cases hf : ws.length < p + l.ifs.length
  ·exact .inl ⟨h.fin (by rw [fin1 hm]; simpa using hf), by omega⟩
  ·have hs : SoFar l ws ⟨(p + 1 : Nat), nx, sh, now⟩ done := by
    refine h.skip (.inl hm) (by rw [fin1 hm]; simpa using hf) ?_
    unfold stepM
    rw [if_pos hm, show decide (nx ≤ (p : Int)) = false by simp; omega, Bool.and_false, if_neg (by decide)]
    simp
   have := SoFar.jump hm d (p + 1) hs (by omega)
   rwa [show p + (d + 1) = p + 1 + d by omega]
theorem AllAt.skip (hm : l.mode = 1) (h : AllAt l ws p out done) (hh : hitM l ws p = false) : AllAt l ws (p + 1) (out ++ (ws.drop p).take 1) done := by
 rcases h with ⟨h1, h2⟩ | ⟨nx, sh, h1, h2, h3, h4⟩
 ·exact .inl ⟨h1, by omega⟩
 ·have hs : SoFar l ws ⟨(p + 1 : Nat), nx, sh, out ++ ws.drop p⟩ done := by
   refine h1.skip (.inl hm) (by rw [fin1 hm]; simpa using h4) ?_
   unfold stepM
   rw [if_pos hm, show hitM l ws ((⟨p, nx, sh, out ++ ws.drop p⟩ : RS).at_.toNat) = false by rw [show (⟨p, nx, sh, out ++ ws.drop p⟩ : RS).at_ = p from rfl, Int.toNat_natCast, hh], Bool.false_and, if_neg (by decide)]
   simp
  refine AllAt.of hm (nx := nx) (sh := sh) ?_ (by omega) (fun h5 => ?_)
  ·rw [List.append_assoc, show (ws.drop p).take 1 ++ ws.drop (p + 1) = ws.drop p by rw [← List.drop_drop]; exact List.take_append_drop 1 _]
   exact hs
  ·rw [List.length_append, List.length_take, List.length_drop]
   omega
def nextW (l : LawD) (ws out : List Snd) (p : Nat) : List Snd := out ++ putM l ((ws.drop p).take l.ifs.length) ++ ws.drop (p + l.ifs.length)
theorem AllAt.hit_step (hm : l.mode = 1) (h : AllAt l ws p out done) (hh : hitM l ws p = true) : ∃ nx sh, SoFar l ws ⟨p, nx, sh, out ++ ws.drop p⟩ done ∧ (out.length : Int) = p + sh ∧ finM l ws ⟨p, nx, sh, out ++ ws.drop p⟩ = false ∧
  stepM l ws ⟨p, nx, sh, out ++ ws.drop p⟩ = (some ((p : Int), nextW l ws out p), ⟨(p : Int) + 1, (p : Int) + max (l.ifs.length : Int) 1, sh + l.outs.length - l.ifs.length, nextW l ws out p⟩) := by
 have hf := hit_fits hh
 rcases h with ⟨h1, h2⟩ | ⟨nx, sh, h1, h2, h3, h4⟩
 ·omega
 ·refine ⟨nx, sh, h1, h3, by rw [fin1 hm]; simpa using h4, ?_⟩
  unfold stepM
  have e : (out ++ ws.drop p).take ((p : Int) + sh).toNat = out := by
   rw [← h3, Int.toNat_natCast]; exact List.take_left
  simp only [if_pos hm, Int.toNat_natCast, hh, Bool.true_and, decide_eq_true h2, if_true, e]
  rfl
theorem AllAt.long (hm : l.mode = 1) (h : AllAt l ws p out done) (hh : hitM l ws p = true) (hn : 32 < (nextW l ws out p).length) : (runM l ws 80 (startM l ws)).2 = true := by
 obtain ⟨nx, sh, h1, _, h2, h3⟩ := h.hit_step hm hh
 exact h1.long (.inl hm) h2 h3 hn
theorem AllAt.hit (hm : l.mode = 1) (h : AllAt l ws p out done) (hh : hitM l ws p = true) (hn : (nextW l ws out p).length ≤ 32) :
  AllAt l ws (p + max l.ifs.length 1) (out ++ putM l ((ws.drop p).take l.ifs.length) ++ if l.ifs.length = 0 then (ws.drop p).take 1 else []) (done ++ [((p : Int), nextW l ws out p)]) := by
 obtain ⟨nx, sh, h1, h5, h2, h3⟩ := h.hit_step hm hh
 have hs := h1.step (.inl hm) h2 h3 hn
 have hf := hit_fits hh
 have hpl := putM_len l ((ws.drop p).take l.ifs.length)
 have hj := SoFar.jump hm (max l.ifs.length 1 - 1) (p + 1) (nx := (p : Int) + max (l.ifs.length : Int) 1) (sh := sh + l.outs.length - l.ifs.length) (now := nextW l ws out p) (by simpa using hs) (by omega)
 rw [show p + 1 + (max l.ifs.length 1 - 1) = p + max l.ifs.length 1 by omega] at hj
 rcases hj with ⟨j1, j2⟩ | hj
 ·exact .inl ⟨j1, by omega⟩
 ·refine AllAt.of hm (nx := (p : Int) + max (l.ifs.length : Int) 1) (sh := sh + l.outs.length - l.ifs.length) ?_ (by omega) (fun h6 => ?_)
  ·by_cases hk : l.ifs.length = 0
   ·rw [if_pos hk, List.append_assoc, show max l.ifs.length 1 = 1 by omega, show (ws.drop p).take 1 ++ ws.drop (p + 1) = ws.drop p by rw [← List.drop_drop]; exact List.take_append_drop 1 _]
    rw [show max l.ifs.length 1 = 1 by omega] at hj
    unfold nextW at hj ⊢
    rw [show ws.drop (p + l.ifs.length) = ws.drop p by rw [hk]; rfl] at hj ⊢
    exact hj
   ·rw [if_neg hk, List.append_nil, show max l.ifs.length 1 = l.ifs.length by omega]
    rw [show max l.ifs.length 1 = l.ifs.length by omega] at hj
    exact hj
  ·by_cases hk : l.ifs.length = 0
   ·rw [if_pos hk, List.length_append, List.length_append, List.length_take, List.length_drop, hpl]
    omega
   ·rw [if_neg hk, List.append_nil, List.length_append, hpl]
    omega
theorem AllAt.fin (h : AllAt l ws p out done) (hp : ws.length < p) : runM l ws 80 (startM l ws) = (done, false) := by
 rcases h with ⟨h1, _⟩ | ⟨_, _, _, _, _, h4⟩
 ·exact h1
 ·omega
theorem AllAt.done_len (h : AllAt l ws p out done) : done.length ≤ 80 := by
 rcases h with ⟨h1, _⟩ | ⟨_, _, h1, _⟩
 ·have := runM_len l ws 80 (startM l ws)
  rw [h1] at this
  exact this
 ·exact Proofs.YtlgliddhideflaaGreatDoor.done_len h1
end allat
end Go.Proofs.YtlgliddhideflaaGreatDoor
namespace Go.Proofs.YtlgliddhideflaaGreatDoor
open Go.RowKit Go.Shelf
attribute [local go_sem] Oper.semAt_some
end Go.Proofs.YtlgliddhideflaaGreatDoor
namespace Go.Proofs.YtlgliddhideflaaGreatDoor
open Go.RowKit Go.Shelf
end Go.Proofs.YtlgliddhideflaaGreatDoor

/-
  Pairs of words, in a slice of one's own.
-/
import Derived.Test.YtlgliddhideflaaGreatDoorXAsideL
set_option linter.all false
set_option maxRecDepth 100000
set_option maxHeartbeats 4000000
namespace Go.Proofs.YtlgliddhideflaaGreatDoor
open Go.RowKit Go.Shelf
structure PairR where
 p : Part
 q : Part
def PairR.cells (s : PairR) : List Value := [s.p.val, s.q.val]
theorem PairR.len (s : PairR) : s.cells.length = 2 := rfl
abbrev pairV (s : PairR) : Value := .agg #[s.p.val, s.q.val]
def PairR.data (s : PairR) : List Snd × List Snd := (s.p.word, s.q.word)
def IsPairs (w : World) (A : Option Addr) (n c : Nat) (ss : List PairR) : Prop := Recs PairR.cells 2 w A n c ss ∧ ∀ s ∈ ss, IsWord w s.p.1 s.p.2.1 s.p.2.2.1 s.p.2.2.2 ∧ IsWord w s.q.1 s.q.2.1 s.q.2.2.1 s.q.2.2.2
theorem IsPairs.below {w w' : World} {A : Option Addr} {n c : Nat} {ss : List PairR} (h : IsPairs w A n c ss) {B : Nat} (hb : Below B w w') (hB : w.heap.size ≤ B) : IsPairs w' A n c ss :=
 ⟨h.1.below hb hB, fun s hs => ⟨(h.2 s hs).1.below hb hB, (h.2 s hs).2.below hb hB⟩⟩
structure PairsOK (w : World) (B : Nat) (v : Value) (ss : List PairR) : Prop where
 own : w.ownsRow B 52 2 v ss.length (ss.flatMap PairR.cells)
 pq : ∀ s ∈ ss, Aside B v w s.p ∧ Aside B v w s.q
 sz : B ≤ w.heap.size
theorem PairsOK.below {w w' : World} {B : Nat} {v : Value} {ss : List PairR} (h : PairsOK w B v ss) (hb : Below w.heap.size w w') : PairsOK w' B v ss :=
 ⟨own_heap h.own fun k e => hb.block k (h.own.lt k e).2, fun s hs => ⟨(h.pq s hs).1.below hb, (h.pq s hs).2.below hb⟩, Nat.le_trans h.sz hb.size⟩
theorem PairsOK.nil (w : World) : PairsOK w w.heap.size (.slice none 0 0) [] := ⟨World.ownsRow_nil _ _ _ _, fun s hs => by simp at hs, rr⟩
theorem PairsOK.pairs {w : World} {B : Nat} {A : Option Addr} {n c : Nat} {ss : List PairR} (h : PairsOK w B (.slice A n c) ss) (hn : n = ss.length) : IsPairs w A n c ss := by
 subst hn
 exact ⟨Recs.of_own h.own PairR.len (by decide), fun s hs => ⟨(h.pq s hs).1.1, (h.pq s hs).2.1⟩⟩
theorem PairsOK.push {w X : World} {B : Nat} {v v' : Value} {ss : List PairR} (h : PairsOK w B v ss) {s : PairR} (hp : Aside B v w s.p) (hq : Aside B v w s.q)
  (hown : X.ownsRow B 52 2 v' (ss.length + 1) (ss.flatMap PairR.cells ++ s.cells)) (hg : w.grownBy X v.ownBlock) (hat : v'.ownBlock = v.ownBlock ∨ v'.ownBlock = some w.heap.size) : PairsOK X B v' (ss ++ [s]) := by
 refine ⟨?_, fun t ht => ?_, Nat.le_trans h.sz hg.size⟩
 ·rw [List.length_append, List.length_singleton, List.flatMap_append, List.flatMap_singleton]; exact hown
 ·rcases List.mem_append.1 ht with ht | ht
  ·exact ⟨(h.pq t ht).1.grown hg hat, (h.pq t ht).2.grown hg hat⟩
  ·obtain rfl : t = s := by simpa using ht
   exact ⟨hp.grown hg hat, hq.grown hg hat⟩
def pairsGo (ls : List LawD) : List (List Snd) → List (List Snd × List Snd) → Int × List (List Snd × List Snd)
 | [], done => (0, done)
 | ws :: rest, done => if (formsM ls ws).1 ≠ 0 then ((formsM ls ws).1, []) else pairsGo ls rest (done ++ [(ws, ((formsM ls ws).2.getLast?).getD [])])
def pairsM (ls : List LawD) (wss : List (List Snd)) : Int × List (List Snd × List Snd) := if chkM ls wss ≠ 0 then (chkM ls wss, []) else pairsGo ls wss []
def RetPairs (w : World) (r : Int × List (List Snd × List Snd)) (e : Ending) (w' : World) : Prop :=
 ∃ A n c ss, e = .returned (.tuple #[.slice A n c, .int .i64 r.1]) ∧ ss.map PairR.data = r.2 ∧ IsPairs w' A n c ss ∧ Below w.heap.size w w'
end Go.Proofs.YtlgliddhideflaaGreatDoor

/-
  Words that do not lie in a row of one's own; such a row grows.
-/
import Derived.Test.YtaglfmlgbcmakaaGreatDoorG13
set_option linter.all false
set_option maxRecDepth 100000
set_option maxHeartbeats 4000000
namespace Go.Proofs.YtaglfmlgbcmakaaGreatDoor
open Go.RowKit Go.Shelf
theorem append_wd {ops : Array Oper} {rest : List Oper} {o : Oper} {a : Act} {w : World} {Q : Exit → Act → World → Prop} (hgd : o.guard = none) (s x : Operand)
  (ho : o.op = .call { callee := .builtin .append, args := #[s, x], argTypes := #[34, 34] })
  (base : Nat) (v : Value) (n : Nat) (xs : List Value) (hs : a.eval s = v) (hown : w.ownsRow base 28 1 v n xs)
  (ad : Addr) (c : Nat) (y : Value) (hx : a.eval x = .slice (some ad) 1 c) (hr : ∀ j u, [y][j]? = some u → w.cell? (ad.add j) = some u) (hy : y.oneCell' = true) (hl : n + 1 ≤ 4096) (hbase : base ≤ w.heap.size)
  (h : ∀ v' w', w'.ownsRow base 28 1 v' (n + 1) (xs ++ [y]) → w.grownBy w' v.ownBlock → (v'.ownBlock = v.ownBlock ∨ v'.ownBlock = some w.heap.size) →
   wpList Tryz.prog ops Q rest (a.put o.dst v') w') : wpList Tryz.prog ops Q (o :: rest) a w := by
 obtain ⟨i0, hi, hz0, hz1, hz2⟩ := info_parts words_info
 exact wpList_append_own_at w hgd s x 34 ho base 28 i0 _ 1 24 Tryz.underlying34 hi hz0 hz1 hz2 rfl (by decide) v n xs hs hown ad 1 c [y] hx rfl hr
  (by intro u hu; simp at hu; subst hu; exact hy) (by unfold maxLen; omega) (by omega) hbase fun v' w' h1 h2 _ h4 => h v' w' h1 h2 h4
def Away (v : Value) (w : World) (p : Part) : Prop := IsWord w p.1 p.2.1 p.2.2.1 p.2.2.2 ∧ ∀ ad, p.1 = some ad → 0 < p.2.1 → ¬ v.ownBlock = some ad.block
theorem part_lt {w : World} {p : Part} (h : IsWord w p.1 p.2.1 p.2.2.1 p.2.2.2) {ad : Addr} (had : p.1 = some ad) (hn : 0 < p.2.1) : ad.block < w.heap.size := by
 obtain ⟨b, off, hb, hlt, _⟩ := h.2.2.2.2 hn
 rw [had] at hb
 injection hb with hb
 subst hb
 exact hlt
theorem Away.below {v : Value} {w w' : World} {p : Part} (h : Away v w p) (hb : Below w.heap.size w w') : Away v w' p := ⟨h.1.below hb rr, h.2⟩
theorem Away.word_grown {v : Value} {w X : World} {p : Part} (h : Away v w p) (hg : w.grownBy X v.ownBlock) : IsWord X p.1 p.2.1 p.2.2.1 p.2.2.2 :=
 h.1.keep (S := fun k => v.ownBlock = some k) ((Keep.refl (fun k => v.ownBlock = some k) w).grown hg (fun k e => .inl e)) fun hn ad had e => h.2 ad had hn e
theorem Away.grown {v v' : Value} {w X : World} {p : Part} (h : Away v w p) (hg : w.grownBy X v.ownBlock) (hat : v'.ownBlock = v.ownBlock ∨ v'.ownBlock = some w.heap.size) : Away v' X p := by
 refine ⟨h.word_grown hg, fun ad had hn e => ?_⟩
 rcases hat with e' | e'
 ·exact h.2 ad had hn (e' ▸ e)
 ·rw [e'] at e; injection e with e; have := part_lt h.1 had hn; omega
structure WordsW (w : World) (B : Nat) (v : Value) (ps : List Part) : Prop where
 own : w.ownsRow B 28 1 v ps.length (ps.map Part.val)
 pp : ∀ p ∈ ps, Away v w p
 sz : B ≤ w.heap.size
theorem WordsW.nil (w : World) : WordsW w w.heap.size (.slice none 0 0) [] := ⟨World.ownsRow_nil _ _ _ _, fun p hp => by simp at hp, rr⟩
theorem WordsW.below {w w' : World} {B : Nat} {v : Value} {ps : List Part} (h : WordsW w B v ps) (hb : Below w.heap.size w w') : WordsW w' B v ps :=
 ⟨own_heap h.own fun k e => hb.block k (h.own.lt k e).2, fun p hp => (h.pp p hp).below hb, Nat.le_trans h.sz hb.size⟩
theorem WordsW.words {w : World} {B : Nat} {A : Option Addr} {n c : Nat} {ps : List Part} (h : WordsW w B (.slice A n c) ps) (hn : n = ps.length) : IsWords w A n c (ps.map Part.word) := by
 subst hn
 exact IsWords.mk (Cells.of_own h.own (by decide)) fun p hp => (h.pp p hp).1
theorem WordsW.push {w X : World} {B : Nat} {v v' : Value} {ps : List Part} (h : WordsW w B v ps) {q : Part} (hq : Away v w q) (hown : X.ownsRow B 28 1 v' (ps.length + 1) (ps.map Part.val ++ [q.val])) (hg : w.grownBy X v.ownBlock)
  (hat : v'.ownBlock = v.ownBlock ∨ v'.ownBlock = some w.heap.size) : WordsW X B v' (ps ++ [q]) := by
 refine ⟨?_, fun p hp => ?_, Nat.le_trans h.sz hg.size⟩
 ·rw [List.length_append, List.length_singleton, List.map_append]; exact hown
 ·rcases List.mem_append.1 hp with hp | hp
  ·exact (h.pp p hp).grown hg hat
  ·obtain rfl : p = q := by simpa using hp
   exact hq.grown hg hat
end Go.Proofs.YtaglfmlgbcmakaaGreatDoor

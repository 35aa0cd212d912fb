/-
  Plain words for all texts of this seat: facts about worlds, slices and small numbers. Nothing here speaks of the program.
  Short names.
  Closed facts about the program's types: equality of sounds, sizes of the types that are made.
  The small functions of feats and of word: what each returns.
  feats.Change and feats.Take, on valid arguments: what each returns.
  feats.Change and feats.Take on any arguments.
-/
import Derived.WalkKit
import Derived.WalkSpells
import Derived.WalkLawsBesides
import Derived.Lib.Hide
import Derived.StillTailTactics
import Derived.Deep.QuietTactic
import Derived.BigQuiet
import Derived.Deep.RegionWith
import Derived.Deep.RegionHeld3
import Derived.Deep.LoopGhost
import Derived.Deep.DeepFit
import Derived.Deep.DeepMust
import Derived.Handy
import Derived.Laws.CopyOwn
import Derived.Test.YtaglfmlgbcmakaaGreatDoorProg
set_option linter.all false
set_option maxRecDepth 100000
set_option maxHeartbeats 4000000
namespace Go.Proofs.YtaglfmlgbcmakaaGreatDoor
open Go.RowKit
theorem bcell {W w1 : World} (hb : Below W.heap.size W w1) :
  (∀ b o, b < W.heap.size → w1.cell? ⟨b, o, none⟩ = W.cell? ⟨b, o, none⟩) ∧
  (∀ b o, b < W.heap.size → w1.frozen? ⟨b, o, none⟩ = W.frozen? ⟨b, o, none⟩) :=
 ⟨fun b o h => hb.cell (p := ⟨b, o, none⟩) h, fun b o h => hb.frozen (p := ⟨b, o, none⟩) h⟩
theorem bsize {W w1 : World} (hb : Below W.heap.size W w1) : W.heap.size ≤ w1.heap.size := hb.size
theorem _root_.Go.RowKit.Below.step {B C : Nat} {w W w2 : World} (h : Below C W w2) (hB : B ≤ C) (h0 : Below B w W) : Below B w w2 := h0.trans (h.mono hB)
theorem _root_.Go.RowKit.Below.drewN {B : Nat} {a w : World} (h : Below B a w) (n : Nat) : Below B a (w.drewN n) := ⟨h.os, h.tape, h.output, h.size, h.block⟩
theorem size_drewN (w : World) (n : Nat) : (w.drewN n).heap.size = w.heap.size := rfl
theorem heap_drew (w : World) : w.drew.heap = w.heap := rfl
theorem heap_new_at {w : World} {o : Obj} {k : Nat} (h : k = w.heap.size) : (w.alloc o).heap[k]? = some o := by subst h; exact heap_alloc_new w o
theorem heap_old_at {w : World} {o : Obj} {k : Nat} (h : k < w.heap.size) : (w.alloc o).heap[k]? = w.heap[k]? := Below.heap_alloc _ _ _ h
theorem cell_set_block {w : World} {b o b' o' : Nat} {v : Value} (h : b ≠ b') : (w.setCell ⟨b', o', none⟩ v).cell? ⟨b, o, none⟩ = w.cell? ⟨b, o, none⟩ :=
 World.cell?_setCell_other _ _ _ _ (fun e => h (by injection e with e1 e2; first | exact e1.symm | exact e2.symm))
theorem cell_set_off {w : World} {b o b' o' : Nat} {v : Value} (h : o ≠ o') : (w.setCell ⟨b', o', none⟩ v).cell? ⟨b, o, none⟩ = w.cell? ⟨b, o, none⟩ :=
 World.cell?_setCell_other _ _ _ _ (fun e => h (by injection e with e1 e2; first | exact e1.symm | exact e2.symm))
theorem cell_new_block {w : World} {b o : Nat} {x : Obj} (h : b < w.heap.size) : (w.alloc x).cell? ⟨b, o, none⟩ = w.cell? ⟨b, o, none⟩ :=
 World.cell?_alloc_lt _ _ _ h
abbrev sndV (p m : Int) : Value := .agg #[.int .u32 p, .int .u32 m]
def Cells (w : World) (A : Option Addr) (n c sz : Nat) (vs : List Value) : Prop :=
 vs.length = n * sz ∧ n ≤ c ∧ c ≤ maxLen ∧ (A = none → c = 0) ∧
 (0 < n → ∃ b off, A = some ⟨b, off, none⟩ ∧ b < w.heap.size ∧ ∀ j v, vs[j]? = some v → w.cell? ⟨b, off + j, none⟩ = some v)
theorem Cells.below {w w' : World} {A : Option Addr} {n c sz : Nat} {vs : List Value} (h : Cells w A n c sz vs) {B : Nat} (hb : Below B w w') (hB : w.heap.size ≤ B) : Cells w' A n c sz vs := by
 obtain ⟨h1, h2, h3, h4, h5⟩ := h
 refine ⟨h1, h2, h3, h4, fun hn => ?_⟩
 obtain ⟨b, off, hA, hlt, hc⟩ := h5 hn
 exact ⟨b, off, hA, Nat.lt_of_lt_of_le hlt hb.size, fun j v hv => (hb.cell (p := ⟨b, _, none⟩) (Nat.lt_of_lt_of_le hlt hB)).trans (hc j v hv)⟩
theorem Cells.nil (w : World) (sz : Nat) : Cells w none 0 0 sz [] := ⟨by simp, Nat.le_refl _, by simp [maxLen], fun _ => rfl, fun h => absurd h (by omega)⟩
theorem addr_add (b off j : Nat) : (⟨b, off, none⟩ : Addr).add j = ⟨b, off + j, none⟩ := by
 unfold Addr.add; split
 ·rename_i h; subst h; rfl
 ·rfl
theorem Cells.of_own {w : World} {base : Nat} {e : TypeId} {sz n : Nat} {A : Option Addr} {c : Nat} {vs : List Value} (h : w.ownsRow base e sz (.slice A n c) n vs) (hsz : 0 < sz) :
  Cells w A n c sz vs := by
 obtain ⟨h1, h2⟩ := h
 rcases h2 with ⟨hv, hn⟩ | ⟨g, cap, cur, hv, hb, hg, hnc, hcm, hcs, ht⟩
 ·injection hv with hA _ hc
  subst hA hc hn
  exact ⟨h1, Nat.le_refl _, by simp [maxLen], fun _ => rfl, fun h => absurd h (by omega)⟩
 ·injection hv with hA _ hc
  subst hA hc
  refine ⟨h1, hnc, hcm, (fun h => by cases h), fun hn => ⟨g, 0, rfl, (Array.getElem?_eq_some_iff.1 hg).1, fun j v hj => ?_⟩⟩
  rw [cell_of_row w g (0 + j) cur e (0, 0) hg]
  rw [← ht, List.getElem?_take] at hj
  split at hj
  ·simpa using hj
  ·cases hj
theorem Cells.drop {w : World} {A : Option Addr} {n c sz : Nat} {vs : List Value} (h : Cells w A n c sz vs) {k : Nat} (hk : k ≤ n) :
  Cells w (if c = k then A else A.map (·.add (k * sz))) (n - k) (c - k) sz (vs.drop (k * sz)) := by
 obtain ⟨h1, h2, h3, h4, h5⟩ := h
 refine ⟨by rw [List.length_drop, h1, Nat.sub_mul], by omega, by omega, fun hA => ?_, fun hn => ?_⟩
 ·split at hA
  ·omega
  ·cases A with
   | none => have := h4 rfl; omega
   | some a => cases hA
 ·obtain ⟨b, off, rfl, hlt, hc⟩ := h5 (by omega)
  rw [if_neg (by omega)]
  refine ⟨b, off + k * sz, by simp [addr_add], hlt, fun j v hj => ?_⟩
  rw [Nat.add_assoc]
  exact hc _ v (by rw [← hj, List.getElem?_drop])
theorem Cells.take {w : World} {A : Option Addr} {n c sz : Nat} {vs : List Value} (h : Cells w A n c sz vs) {k : Nat} (hk : k ≤ n) :
  Cells w A k c sz (vs.take (k * sz)) := by
 obtain ⟨h1, h2, h3, h4, h5⟩ := h
 have hm : k * sz ≤ n * sz := Nat.mul_le_mul_right _ hk
 refine ⟨by rw [List.length_take, h1]; omega, by omega, h3, h4, fun hn => ?_⟩
 obtain ⟨b, off, rfl, hlt, hc⟩ := h5 (by omega)
 refine ⟨b, off, rfl, hlt, fun j v hj => hc j v ?_⟩
 rw [List.getElem?_take] at hj
 split at hj
 ·exact hj
 ·cases hj
section append
variable {P : Program} (w : World)
theorem run_append_of_nil (base : Nat) (t ty e : TypeId) (i : TypeInfo) (sz : Nat) (ht : P.underlying t = some (.slice e)) (hi : P.info? e = some i)
  (v : Value) (n : Nat) (xs : List Value) (hown : w.ownsRow base e sz v n xs) (c : Nat) : (Builtin.append_ #[t, t] ty #[v, .slice none 0 c]).run P w = .ok v w := by
 rcases hown.2 with ⟨rfl, rfl⟩ | ⟨g, cap, cur, rfl, _, _, hnc, _⟩
 ·simp [Builtin.append_, run_underlying ht, sizeOf, typeInfo, hi, Builtin.lenOf, Builtin.firstCells]
 ·simp [Builtin.append_, run_underlying ht, sizeOf, typeInfo, hi, Builtin.lenOf, Builtin.firstCells, hnc, storeCells]
theorem run_append_cells (base : Nat) (t ty e : TypeId) (i : TypeInfo) (z : Value) (sz bytes : Nat) (ht : P.underlying t = some (.slice e)) (hi : P.info? e = some i) (hz : i.zero = some z)
  (hsize : i.size = sz) (hby : i.bytes = bytes) (hzs : z.cells.size = sz) (hsz : 0 < sz)
  (v : Value) (n : Nat) (xs : List Value) (hown : w.ownsRow base e sz v n xs)
  (A : Option Addr) (m c : Nat) (news : List Value) (hr : Cells w A m c sz news) (h1 : ∀ u ∈ news, u.oneCell' = true)
  (h63 : n + m ≤ maxLen) (hbytes : (n + m) * bytes ≤ 140737488355328) (hbase : base ≤ w.heap.size) :
  ∃ v' w', (Builtin.append_ #[t, t] ty #[v, .slice A m c]).run P w = .ok v' w' ∧ w'.ownsRow base e sz v' (n + m) (xs ++ news) ∧ w.grownBy w' v.ownBlock ∧
   (v' = .slice none 0 0 ↔ v = .slice none 0 0 ∧ m = 0) := by
 obtain ⟨h1', h2, h3, h4, h5⟩ := hr
 rcases Nat.eq_zero_or_pos m with hm | hm
 ·subst hm
  have hn : news = [] := List.eq_nil_of_length_eq_zero (by simpa using h1')
  subst hn
  cases A with
  | none => exact ⟨v, w, run_append_of_nil w base t ty e i sz ht hi v n xs hown c, by simpa using hown, ⟨rfl, rfl, rfl, Nat.le_refl _, fun _ _ _ => rfl⟩, by simp⟩
  | some ad => exact run_append_own w base t ty e i z sz bytes ht hi hz hsize hby hzs hsz v n xs hown ad 0 c [] (by simp) (by simp) (by simp) h63 hbytes hbase
 ·obtain ⟨b, off, rfl, _, hc⟩ := h5 hm
  exact run_append_own w base t ty e i z sz bytes ht hi hz hsize hby hzs hsz v n xs hown ⟨b, off, none⟩ m c news h1' (fun j u hu => by rw [addr_add]; exact hc j u hu) h1 h63 hbytes hbase
theorem wp_append_cells {o : Oper} {a : Act} {K : Act → World → Prop} {Q : Exit → Act → World → Prop} (s x : Operand) (t : TypeId)
  (ho : o.op = .call { callee := .builtin .append, args := #[s, x], argTypes := #[t, t] })
  (base : Nat) (e : TypeId) (i : TypeInfo) (z : Value) (sz bytes : Nat) (ht : P.underlying t = some (.slice e)) (hi : P.info? e = some i) (hz : i.zero = some z)
  (hsize : i.size = sz) (hby : i.bytes = bytes) (hzs : z.cells.size = sz) (hsz : 0 < sz)
  (v : Value) (n : Nat) (xs : List Value) (hs : a.eval s = v) (hown : w.ownsRow base e sz v n xs)
  (A : Option Addr) (m c : Nat) (news : List Value) (hx : a.eval x = .slice A m c) (hr : Cells w A m c sz news) (h1 : ∀ u ∈ news, u.oneCell' = true)
  (h63 : n + m ≤ maxLen) (hbytes : (n + m) * bytes ≤ 140737488355328) (hbase : base ≤ w.heap.size)
  (h : ∀ v' w', w'.ownsRow base e sz v' (n + m) (xs ++ news) → w.grownBy w' v.ownBlock → (v' = .slice none 0 0 ↔ v = .slice none 0 0 ∧ m = 0) → K (a.put o.dst v') w') : o.wp P a w K Q := by
 obtain ⟨v', w', hrun, h2, h3, h4⟩ := run_append_cells (P := P) w base t o.type e i z sz bytes ht hi hz hsize hby hzs hsz v n xs hown A m c news hr h1 h63 hbytes hbase
 unfold Oper.wp execOp
 simp only [ho, resolve, invoke, builtin, Sem.run_bind, Sem.run_pure, Result.andThen_ok, List.map_toArray, List.map_cons, List.map_nil, hs, hx, hrun]
 exact h v' w' h2 h3 h4
theorem wpList_append_cells {ops : Array Oper} {rest : List Oper} {o : Oper} {a : Act} {Q : Exit → Act → World → Prop} (hgd : o.guard = none) (s x : Operand) (t : TypeId)
  (ho : o.op = .call { callee := .builtin .append, args := #[s, x], argTypes := #[t, t] })
  (base : Nat) (e : TypeId) (i : TypeInfo) (z : Value) (sz bytes : Nat) (ht : P.underlying t = some (.slice e)) (hi : P.info? e = some i) (hz : i.zero = some z)
  (hsize : i.size = sz) (hby : i.bytes = bytes) (hzs : z.cells.size = sz) (hsz : 0 < sz)
  (v : Value) (n : Nat) (xs : List Value) (hs : a.eval s = v) (hown : w.ownsRow base e sz v n xs)
  (A : Option Addr) (m c : Nat) (news : List Value) (hx : a.eval x = .slice A m c) (hr : Cells w A m c sz news) (h1 : ∀ u ∈ news, u.oneCell' = true)
  (h63 : n + m ≤ maxLen) (hbytes : (n + m) * bytes ≤ 140737488355328) (hbase : base ≤ w.heap.size)
  (h : ∀ v' w', w'.ownsRow base e sz v' (n + m) (xs ++ news) → w.grownBy w' v.ownBlock → (v' = .slice none 0 0 ↔ v = .slice none 0 0 ∧ m = 0) → wpList P ops Q rest (a.put o.dst v') w') : wpList P ops Q (o :: rest) a w :=
 wpList_plain hgd fun _ hK => wp_append_cells w s x t ho base e i z sz bytes ht hi hz hsize hby hzs hsz v n xs hs hown A m c news hx hr h1 h63 hbytes hbase fun v' w' h2 h3 h4 => hK _ _ (h v' w' h2 h3 h4)
theorem run_append_make_nil (t u ty e : TypeId) (i : TypeInfo) (z : Value) (ht : P.underlying t = some (.slice e)) (hu : P.underlying u = some (.int .i64)) (hi : P.info? e = some i) (hz : i.zero = some z)
  (n : Nat) (h0 : 0 < n) (hb : n * i.bytes ≤ 140737488355328) (h63 : n ≤ 4611686018427387904) (hzp : 0 < i.size) :
  (Builtin.append_ #[t, u] ty #[.slice none 0 0, .int .i64 (n : Int)]).run P w =
   .ok (.slice (some ⟨w.heap.size, 0, none⟩) n (grownCap w n 0 e)) (w.drew.alloc (.cells (Builtin.zeroCells z.cells n ++ Builtin.zeroCells z.cells (grownCap w n 0 e - n)) e)) := by
 have hn : n ≠ 0 := by omega
 have hw : IntKind.i64.wrap (n : Int) = n := IntWalk.i64_in _ (by omega)
 have h63' : ¬ (9223372036854775807 < (n : Int)) := by omega
 have h48 : ¬ (281474976710656 < (n : Int) * (i.bytes : Int)) := by
  rw [← Int.natCast_mul]; omega
 have h48' : ¬ (281474976710656 < Builtin.nextslicecap n 0 * i.bytes) := by rw [nextslicecap_zero h0]; omega
 have hsz : i.size ≠ 0 := by omega
 have hsz' : ¬ (n * i.size = 0) := fun h => by rcases Nat.mul_eq_zero.1 h with h | h <;> omega
 have hneg : ¬ ((n : Int) < 0) := by omega
 have hai : ∀ w : World, (asInt (.int .i64 (n : Int))).run P w = .ok (n : Int) w := fun _ => rfl
 simp [Builtin.append_, run_underlying ht, run_underlying hu, sizeOf, typeInfo, zeroValue, hi, hz, hn, hw, h63', h48, h48', hsz, hsz', hneg, hai, Question.forced, run_firstCells_none, newRow, grownCap]
end append
abbrev Snd := Int × Int
def wcells : List Snd → List Value
 | [] => []
 | s :: xs => .int .u32 s.1 :: .int .u32 s.2 :: wcells xs
theorem wcells_length : ∀ xs : List Snd, (wcells xs).length = xs.length * 2
 | [] => rfl
 | _ :: xs => by simp only [wcells, List.length_cons, wcells_length xs]; omega
theorem wcells_append : ∀ xs ys : List Snd, wcells (xs ++ ys) = wcells xs ++ wcells ys
 | [], _ => rfl
 | _ :: xs, ys => by simp only [wcells, List.cons_append, wcells_append xs ys]
theorem wcells_one : ∀ (xs : List Snd), ∀ u ∈ wcells xs, u.oneCell' = true
 | [], u, h => by simp [wcells] at h
 | s :: xs, u, h => by
  simp only [wcells, List.mem_cons] at h
  rcases h with rfl | rfl | h
  ·rfl
  ·rfl
  ·exact wcells_one xs u h
theorem wcells_drop : ∀ (xs : List Snd) (k : Nat), (wcells xs).drop (k * 2) = wcells (xs.drop k)
 | [], k => by simp [wcells]
 | s :: xs, 0 => by simp
 | s :: xs, k + 1 => by
  rw [show (k + 1) * 2 = k * 2 + 1 + 1 by omega]
  simp only [wcells, List.drop_succ_cons, wcells_drop xs k]
theorem wcells_take : ∀ (xs : List Snd) (k : Nat), (wcells xs).take (k * 2) = wcells (xs.take k)
 | [], k => by simp [wcells]
 | s :: xs, 0 => by simp [wcells]
 | s :: xs, k + 1 => by
  rw [show (k + 1) * 2 = k * 2 + 1 + 1 by omega]
  simp only [wcells, List.take_succ_cons, wcells_take xs k]
theorem wcells_at : ∀ (xs : List Snd) (k : Nat) (s : Snd), xs[k]? = some s → (wcells xs)[k * 2]? = some (.int .u32 s.1) ∧ (wcells xs)[k * 2 + 1]? = some (.int .u32 s.2)
 | [], k, s, h => by simp at h
 | a :: xs, 0, s, h => by simp at h; subst h; exact ⟨rfl, rfl⟩
 | a :: xs, k + 1, s, h => by
  rw [show (k + 1) * 2 = k * 2 + 1 + 1 by omega]
  exact wcells_at xs k s (by simpa using h)
def IsWord (w : World) (A : Option Addr) (n c : Nat) (xs : List Snd) : Prop := Cells w A n c 2 (wcells xs)
section word
variable {w w' : World} {A : Option Addr} {n c : Nat} {xs : List Snd}
theorem IsWord.len (h : IsWord w A n c xs) : xs.length = n := by have := h.1; rw [wcells_length] at this; omega
theorem IsWord.below (h : IsWord w A n c xs) {B : Nat} (hb : Below B w w') (hB : w.heap.size ≤ B) : IsWord w' A n c xs := Cells.below h hb hB
theorem IsWord.at_ (h : IsWord w A n c xs) {k : Nat} (hk : k < n) :
  ∃ b off p m, A = some ⟨b, off, none⟩ ∧ b < w.heap.size ∧ xs[k]? = some (p, m) ∧
   w.cell? ⟨b, off + k * 2, none⟩ = some (.int .u32 p) ∧ w.cell? ⟨b, off + k * 2 + 1, none⟩ = some (.int .u32 m) := by
 obtain ⟨b, off, hA, hlt, hc⟩ := h.2.2.2.2 (by omega)
 have hl : k < xs.length := by rw [h.len]; exact hk
 obtain ⟨h1, h2⟩ := wcells_at xs k xs[k] (List.getElem?_eq_getElem hl)
 exact ⟨b, off, xs[k].1, xs[k].2, hA, hlt, List.getElem?_eq_getElem hl, hc _ _ h1, hc _ _ h2⟩
theorem IsWord.drop (h : IsWord w A n c xs) {k : Nat} (hk : k ≤ n) : IsWord w (if c = k then A else A.map (·.add (k * 2))) (n - k) (c - k) (xs.drop k) := by
 have := Cells.drop h hk; rwa [wcells_drop] at this
theorem IsWord.take (h : IsWord w A n c xs) {k : Nat} (hk : k ≤ n) : IsWord w A k c (xs.take k) := by
 have := Cells.take h hk; rwa [wcells_take] at this
theorem IsWord.max (h : IsWord w A n c xs) : n ≤ 9223372036854775807 := by have h1 := h.2.1; have h2 := h.2.2.1; unfold maxLen at h2; omega
end word
theorem own_below {w w' : World} {base : Nat} {e : TypeId} {sz n : Nat} {v : Value} {xs : List Value} {B : Nat} {w0 : World} (hB : Below B w0 w) (h : w.ownsRow base e sz v n xs)
  (hg : w.grownBy w' v.ownBlock) (hb : B ≤ base) (hs : B ≤ w.heap.size) : Below B w0 w' :=
 hB.grown hg hs (fun k hk => by have := (h.lt k hk).1; omega)
theorem own_form {w : World} {base : Nat} {e : TypeId} {sz n : Nat} {v : Value} {xs : List Value} (h : w.ownsRow base e sz v n xs) : ∃ A c, v = .slice A n c := by
 rcases h.2 with ⟨rfl, rfl⟩ | ⟨g, cap, cur, rfl, _⟩
 ·exact ⟨_, _, rfl⟩
 ·exact ⟨_, _, rfl⟩
def RetWord (w : World) (xs : List Snd) (e : Ending) (w' : World) : Prop :=
 ∃ A n c, e = .returned (.slice A n c) ∧ IsWord w' A n c xs ∧ Below w.heap.size w w' ∧ ∀ ad, A = some ad → w.heap.size ≤ ad.block
theorem RetWord.of_own {w w' : World} {xs : List Snd} {base : Nat} {t : TypeId} {n : Nat} {v : Value} {e : Ending} (he : e = .returned v) (h : w'.ownsRow base t 2 v n (wcells xs)) (hb : Below w.heap.size w w') (hbase : w.heap.size ≤ base) :
  RetWord w xs e w' := by
 obtain ⟨A, c, rfl⟩ := own_form h
 refine ⟨A, n, c, he, Cells.of_own h (by decide), hb, fun ad had => ?_⟩
 subst had
 exact Nat.le_trans hbase (h.lt ad.block rfl).1
theorem take_snoc' {α : Type} (l : List α) (k : Nat) (x : α) (h : l[k]? = some x) : l.take (k + 1) = l.take k ++ [x] := by
 rw [List.take_add_one, h]; rfl
abbrev Part := Option Addr × Nat × Nat × List Snd
def Part.val (p : Part) : Value := .slice p.1 p.2.1 p.2.2.1
def Part.word (p : Part) : List Snd := p.2.2.2
def Parts (w : World) (ps : List Part) : Prop := ∀ p ∈ ps, IsWord w p.1 p.2.1 p.2.2.1 p.2.2.2
def catW (ps : List Part) : List Snd := ps.flatMap Part.word
theorem catW_snoc (ps : List Part) (p : Part) : catW (ps ++ [p]) = catW ps ++ p.word := by simp [catW]
theorem catW_take (ps : List Part) (k : Nat) : (catW (ps.take k)).length ≤ (catW ps).length := by
 conv => rhs; rw [← List.take_append_drop k ps]
 unfold catW
 rw [List.flatMap_append, List.length_append]
 omega
theorem Cells.at1 {w : World} {A : Option Addr} {n c : Nat} {vs : List Value} (h : Cells w A n c 1 vs) {k : Nat} (hk : k < n) :
  ∃ b off v, A = some ⟨b, off, none⟩ ∧ b < w.heap.size ∧ vs[k]? = some v ∧ w.cell? ⟨b, off + k, none⟩ = some v := by
 obtain ⟨h1, _, _, _, h5⟩ := h
 obtain ⟨b, off, hA, hlt, hc⟩ := h5 (by omega)
 have hl : k < vs.length := by omega
 exact ⟨b, off, vs[k], hA, hlt, List.getElem?_eq_getElem hl, hc _ _ (List.getElem?_eq_getElem hl)⟩
theorem sd {p : Prop} (h : p := by first | omega | (simp; done) | (simp; omega)) : p := h
theorem hpt {p : Prop} (h : p := by repeat (first | exact heap_new_at (by first | omega | (simp; done) | (simp; omega)) | rw [heap_drew] | rw [heap_old_at (by first | omega | (simp; done) | (simp; omega))])) : p := h
theorem nA {α : Type} {xs : List α} {i : Nat} (h : i < xs.toArray.size) : xs.toArray[i] = xs[i]'(by simpa using h) := List.getElem_toArray h
theorem nB {α : Type} {a : α} {t : List α} (h : 0 < (a :: t).length) : (a :: t)[0] = a := List.getElem_cons_zero a t h
theorem nC {α : Type} {a : α} {t : List α} {i : Nat} (h : i + 1 < (a :: t).length) : (a :: t)[i + 1] = t[i]'(by simpa using h) := List.getElem_cons_succ a t i h
theorem nD {α : Type} (l : List α) (i : Nat) (a : α) : l.toArray.setIfInBounds i a = (l.set i a).toArray := List.setIfInBounds_toArray l i a
theorem nE {α : Type} {x : α} {t : List α} {a : α} : (x :: t).set 0 a = a :: t := List.set_cons_zero
theorem nF {α : Type} {x : α} {t : List α} {i : Nat} {a : α} : (x :: t).set (i + 1) a = x :: t.set i a := List.set_cons_succ
theorem nY : (∀ {α : Type} {xs : List α} {i : Nat} (h : i < xs.toArray.size), xs.toArray[i] = xs[i]'(by simpa using h)) ∧ (∀ {α : Type} {a : α} {t : List α} (h : 0 < (a :: t).length), (a :: t)[0] = a) ∧ (∀ {α : Type} {a : α} {t : List α} {i : Nat} (h : i + 1 < (a :: t).length), (a :: t)[i + 1] = t[i]'(by simpa using h)) := ⟨nA, nB, nC⟩
theorem nX : (∀ {α : Type} (l : List α) (i : Nat) (a : α), l.toArray.setIfInBounds i a = (l.set i a).toArray) ∧ (∀ {α : Type} {x : α} {t : List α} {a : α}, (x :: t).set 0 a = a :: t) ∧ (∀ {α : Type} {x : α} {t : List α} {i : Nat} {a : α}, (x :: t).set (i + 1) a = x :: t.set i a) := ⟨nD, nE, nF⟩
theorem bel {B : Nat} {w w' : World} (h : Below B w w' := by repeat' (first | exact Below.refl _ _ | assumption | refine Below.alloc ?_ (by first | omega | (simp; done) | (simp; omega)) _ | refine Below.setCell ?_ (by first | omega | (simp; done) | (simp; omega)) _ | refine Below.drew ?_ | refine Below.drewN ?_ _ | refine Below.step (by assumption) (by first | omega | (simp; done) | (simp; omega)) ?_)) : Below B w w' := h
theorem rr {n : Nat} : n ≤ n := Nat.le_refl n
theorem hI {p : Prop} (h : p) : Hid p := Lib.hid h
theorem snd_hm : Tryz.prog.eqGuardType Tryz.prog.depth 49 = false := by kernel_rfl
theorem snd_hp : Tryz.prog.stoodInHeld 49 = false := by kernel_rfl
theorem snd_hs : Tryz.prog.underlying 49 = some (.struct (Tryz.prog.fieldsOf 49)) := by kernel_rfl
theorem snd_eql (p m p' m' : Int) (w : World) : (binOp .eql 49 (sndV p m) (sndV p' m')).run Tryz.prog w = .ok (.bool (p == p' && m == m')) w := by
 have u3 := Tryz.underlying47
 have a3 := Tryz.isAgg47
 have z3 := Tryz.sizeOf47
 rw [run_eql_struct, show (10000 : Nat) = 9999 + 1 from rfl, run_equalIn_agg w 9999 49 _ _ snd_hs snd_hp]
 simp only [Program.fieldsOf, Tryz.underlying49]
 go_simp
 by_cases h1 : p = p' <;> by_cases h2 : m = m' <;> simp [h1, h2]
theorem snd_neq (p m p' m' : Int) (w : World) : (binOp .neq 49 (sndV p m) (sndV p' m')).run Tryz.prog w = .ok (.bool (!(p == p' && m == m'))) w := by
 have u3 := Tryz.underlying47
 have a3 := Tryz.isAgg47
 have z3 := Tryz.sizeOf47
 rw [run_neq_struct, show (10000 : Nat) = 9999 + 1 from rfl, run_equalIn_agg w 9999 49 _ _ snd_hs snd_hp]
 simp only [Program.fieldsOf, Tryz.underlying49]
 go_simp
 by_cases h1 : p = p' <;> by_cases h2 : m = m' <;> simp [h1, h2]
attribute [go_sem] snd_hm snd_eql snd_neq
theorem snd_info : (Tryz.prog.info? 49).map (fun i => (i.zero, i.size, i.bytes)) = some (some (.agg #[.int .u32 0, .int .u32 0]), 2, 8) := by kernel_rfl
theorem nil_eql (A : Option Addr) (n c : Nat) (w : World) : (binOp .eql 28 (.slice A n c) (.slice none 0 0)).run Tryz.prog w = .ok (.bool A.isNone) w :=
 Lib.run_eql_slice_nil w _ _ A n c 0 0 Tryz.underlying28
attribute [go_sem] nil_eql
theorem append_snd {ops : Array Oper} {rest : List Oper} {o : Oper} {a : Act} {w : World} {Q : Exit → Act → World → Prop} (hgd : o.guard = none) (s x : Operand)
  (ho : o.op = .call { callee := .builtin .append, args := #[s, x], argTypes := #[28, 28] })
  (base : Nat) (v : Value) (n : Nat) (xs : List Snd) (hs : a.eval s = v) (hown : w.ownsRow base 49 2 v n (wcells xs))
  (A : Option Addr) (m c : Nat) (ys : List Snd) (hx : a.eval x = .slice A m c) (hr : IsWord w A m c ys) (hl : n + m ≤ 4096) (hbase : base ≤ w.heap.size)
  (h : ∀ v' w', w'.ownsRow base 49 2 v' (n + m) (wcells (xs ++ ys)) → w.grownBy w' v.ownBlock → (v' = .slice none 0 0 ↔ v = .slice none 0 0 ∧ m = 0) →
   wpList Tryz.prog ops Q rest (a.put o.dst v') w') : wpList Tryz.prog ops Q (o :: rest) a w := by
 obtain ⟨i0, hi, hz0, hz1, hz2⟩ := info_parts snd_info
 refine wpList_append_cells w hgd s x 28 ho base 49 i0 _ 2 8 Tryz.underlying28 hi hz0 hz1 hz2 rfl (by decide) v n (wcells xs) hs hown A m c (wcells ys) hx hr
  (wcells_one ys) (by unfold maxLen; omega) (by omega) hbase ?_
 rw [← wcells_append]
 exact h
theorem append_make_snd (n : Nat) (h0 : 0 < n) (hb : n ≤ 4096) (ty : TypeId) (w : World) : ∃ cap cur, n ≤ cap ∧ cap ≤ maxLen ∧ cur.size = cap * 2 ∧
  (Builtin.append_ #[28, 3] ty #[.slice none 0 0, .int .i64 (n : Int)]).run Tryz.prog w = .ok (.slice (some ⟨w.heap.size, 0, none⟩) n cap) (w.drew.alloc (.cells cur 49)) := by
 obtain ⟨i0, hi, hz0, hz1, hz2⟩ := info_parts snd_info
 have hge := grownCap_ge w n 0 49
 refine ⟨_, _, hge, grownCap_le_maxLen w n 0 49 (by unfold maxLen; omega), ?_, run_append_make_nil w 28 3 ty 49 i0 _ Tryz.underlying28 Tryz.underlying3 hi hz0 n h0 (by rw [hz2]; omega) (by omega) (by omega)⟩
 simp only [Array.size_append, size_zeroCells]
 have : (Value.agg #[Value.int IntKind.u32 0, Value.int IntKind.u32 0]).cells.size = 2 := rfl
 rw [this]
 omega
theorem appendMake_snd {ops : Array Oper} {rest : List Oper} {o : Oper} {a : Act} {w : World} {Q : Exit → Act → World → Prop} (hgd : o.guard = none) (s x : Operand)
  (ho : o.op = .call { callee := .builtin .append, args := #[s, x], argTypes := #[28, 3] })
  (n : Nat) (hs : a.eval s = .slice none 0 0) (hx : a.eval x = .int .i64 (n : Int)) (h0 : 0 < n) (hb : n ≤ 4096)
  (h : ∀ cap cur, n ≤ cap → Hid (cap ≤ maxLen) → Hid (cur.size = cap * 2) → wpList Tryz.prog ops Q rest (a.put o.dst (.slice (some ⟨w.heap.size, 0, none⟩) n cap)) (w.drew.alloc (.cells cur 49))) :
  wpList Tryz.prog ops Q (o :: rest) a w := by
 obtain ⟨cap, cur, h1, h2, h3, hrun⟩ := append_make_snd n h0 hb o.type w
 refine wpList_plain hgd fun _ hK => ?_
 unfold Oper.wp execOp
 simp only [ho, resolve, invoke, builtin, Sem.run_bind, Sem.run_pure, Result.andThen_ok, List.map_toArray, List.map_cons, List.map_nil, hs, hx, hrun]
 exact hK _ _ (h cap cur h1 h2 h3)
def fvalid (p m : Int) : Bool := bits .and .u32 p m == 0 && decide (bits .or .u32 p m ≤ 16777215)
theorem fValid_c (p m : Int) (w : World) :
  Calls Tryz.prog 152 #[sndV p m] w fun e w' => e = .returned (.bool (fvalid p m)) ∧ Below w.heap.size w w' := by
 by_cases h : (bits .and .u32 p m == 0) = true
 ·have hv : fvalid p m = decide (bits .or .u32 p m ≤ 16777215) := by simp [fvalid, h]
  have H := hI hv; clear hv
  go_enter Tryz.func152, Tryz.ntmps152
  go_wp2
  go_ret
  exact ⟨by rw [H.out]; rfl, (Below.refl _ _).alloc rr _⟩
 ·have h' : (bits .and .u32 p m == 0) = false := by simpa using h
  have hv : fvalid p m = false := by simp [fvalid, h']
  have H := hI hv; clear hv h
  go_enter Tryz.func152, Tryz.ntmps152
  go_wp2
  go_ret
  exact ⟨by rw [H.out]; rfl, (Below.refl _ _).alloc rr _⟩
def wvalid (p m : Int) : Bool := bits .and .u32 p m == 0 && bits .or .u32 p m / 16777216 == 0
theorem wvalid_c (p m : Int) (w : World) :
  Calls Tryz.prog 88 #[sndV p m] w fun e w' => e = .returned (.bool (wvalid p m)) ∧ Below w.heap.size w w' := by
 by_cases h : (bits .and .u32 p m == 0) = true
 ·have hv : wvalid p m = (bits .or .u32 p m / 16777216 == 0) := by simp [wvalid, h]
  have H := hI hv; clear hv
  go_enter Tryz.func88, Tryz.ntmps88
  go_wp2
  go_ret
  exact ⟨by rw [H.out]; rfl, (Below.refl _ _).alloc rr _⟩
 ·have h' : (bits .and .u32 p m == 0) = false := by simpa using h
  have hv : wvalid p m = false := by simp [wvalid, h']
  have H := hI hv; clear hv h
  go_enter Tryz.func88, Tryz.ntmps88
  go_wp2
  go_ret
  exact ⟨by rw [H.out]; rfl, (Below.refl _ _).alloc rr _⟩
theorem pvalid_c (p m : Int) (w : World) :
  Calls Tryz.prog 188 #[sndV p m] w fun e w' => e = .returned (.bool (wvalid p m)) ∧ Below w.heap.size w w' := by
 by_cases h : (bits .and .u32 p m == 0) = true
 ·have hv : wvalid p m = (bits .or .u32 p m / 16777216 == 0) := by simp [wvalid, h]
  have H := hI hv; clear hv
  go_enter Tryz.func188, Tryz.ntmps188
  go_wp2
  go_ret
  exact ⟨by rw [H.out]; rfl, (Below.refl _ _).alloc rr _⟩
 ·have h' : (bits .and .u32 p m == 0) = false := by simpa using h
  have hv : wvalid p m = false := by simp [wvalid, h']
  have H := hI hv; clear hv h
  go_enter Tryz.func188, Tryz.ntmps188
  go_wp2
  go_ret
  exact ⟨by rw [H.out]; rfl, (Below.refl _ _).alloc rr _⟩
theorem has_c (p m : Int) (w : World) :
  Calls Tryz.prog 228 #[sndV p m] w fun e w' => e = .returned (.int .u32 (bits .or .u32 p m)) ∧ Below w.heap.size w w' := by
 go_enter Tryz.func228, Tryz.ntmps228
 go_wp2
 go_ret
 exact ⟨rfl, (Below.refl _ _).alloc rr _⟩
def mixI (s f set : Int) : Int := bits .or .u32 (bits .andNot .u32 s set) (bits .and .u32 f set)
theorem mix_c (p m p' m' set : Int) (w : World) :
  Calls Tryz.prog 229 #[sndV p m, sndV p' m', .int .u32 set] w fun e w' =>
   e = .returned (sndV (mixI p p' set) (mixI m m' set)) ∧ Below w.heap.size w w' := by
 go_enter Tryz.func229, Tryz.ntmps229
 go_wp2
 exact bodyPost_ret (v := sndV (mixI p p' set) (mixI m m' set)) (by simp [results, Tryz.results229, go_sem, mixI]) rfl
  ⟨rfl, (((Below.refl _ _).alloc rr _).alloc (by simp) _).alloc (by simp; omega) _⟩
def fsat (p m p' m' : Int) : Bool :=
 fvalid p m && fvalid p' m' && bits .andNot .u32 p' p == 0 && bits .andNot .u32 m' m == 0
theorem fSat_c (p m p' m' : Int) (w : World) :
  Calls Tryz.prog 217 #[sndV p m, sndV p' m'] w fun e w' => e = .returned (.bool (fsat p m p' m')) ∧ Below w.heap.size w w' := by
 by_cases h1 : fvalid p m = true
 ·by_cases h2 : fvalid p' m' = true
  ·by_cases h3 : (bits .andNot .u32 p' p == 0) = true
   ·have hv : fsat p m p' m' = (bits .andNot .u32 m' m == 0) := by simp [fsat, h1, h2, h3]
    have H := hI hv; clear hv
    go_enter Tryz.func217, Tryz.ntmps217
    go_wp2_with (go_at_call 152; refine (fValid_c _ _ _).mono ?_; rintro e w1 ⟨rfl, hb1⟩; have hz1 := bsize hb1; (try simp only [World.size_alloc, World.size_drew, World.size_setCell] at hz1); have c0 := fun o => hb1.cell (p := ⟨w.heap.size, o, none⟩) sd; have c1 := fun o => hb1.cell (p := ⟨w.heap.size + 1, o, none⟩) sd; have f0 := fun o => hb1.frozen (p := ⟨w.heap.size, o, none⟩) sd; have f1 := fun o => hb1.frozen (p := ⟨w.heap.size + 1, o, none⟩) sd; have hB1 : Below w.heap.size w w1 := bel; clear hb1)
    go_ret
    exact ⟨by rw [H.out]; rfl, hB1⟩
   ·have h3' : (bits .andNot .u32 p' p == 0) = false := by simpa using h3
    have hv : fsat p m p' m' = false := by simp [fsat, h1, h2, h3']
    have H := hI hv; clear hv h3
    go_enter Tryz.func217, Tryz.ntmps217
    go_wp2_with (go_at_call 152; refine (fValid_c _ _ _).mono ?_; rintro e w1 ⟨rfl, hb1⟩; have hz1 := bsize hb1; (try simp only [World.size_alloc, World.size_drew, World.size_setCell] at hz1); have c0 := fun o => hb1.cell (p := ⟨w.heap.size, o, none⟩) sd; have c1 := fun o => hb1.cell (p := ⟨w.heap.size + 1, o, none⟩) sd; have f0 := fun o => hb1.frozen (p := ⟨w.heap.size, o, none⟩) sd; have f1 := fun o => hb1.frozen (p := ⟨w.heap.size + 1, o, none⟩) sd; have hB1 : Below w.heap.size w w1 := bel; clear hb1)
    go_ret
    exact ⟨by rw [H.out]; rfl, hB1⟩
  ·have h2' : fvalid p' m' = false := by simpa using h2
   have hv : fsat p m p' m' = false := by simp [fsat, h2']
   have H := hI hv; clear hv h2
   go_enter Tryz.func217, Tryz.ntmps217
   go_wp2_with (go_at_call 152; refine (fValid_c _ _ _).mono ?_; rintro e w1 ⟨rfl, hb1⟩; have hz1 := bsize hb1; (try simp only [World.size_alloc, World.size_drew, World.size_setCell] at hz1); have c0 := fun o => hb1.cell (p := ⟨w.heap.size, o, none⟩) sd; have c1 := fun o => hb1.cell (p := ⟨w.heap.size + 1, o, none⟩) sd; have f0 := fun o => hb1.frozen (p := ⟨w.heap.size, o, none⟩) sd; have f1 := fun o => hb1.frozen (p := ⟨w.heap.size + 1, o, none⟩) sd; have hB1 : Below w.heap.size w w1 := bel; clear hb1)
   go_ret
   exact ⟨by rw [H.out]; rfl, hB1⟩
 ·have h1' : fvalid p m = false := by simpa using h1
  have hv : fsat p m p' m' = false := by simp [fsat, h1']
  have H := hI hv; clear hv h1
  go_enter Tryz.func217, Tryz.ntmps217
  go_wp2_with (go_at_call 152; refine (fValid_c _ _ _).mono ?_; rintro e w1 ⟨rfl, hb1⟩; have hz1 := bsize hb1; (try simp only [World.size_alloc, World.size_drew, World.size_setCell] at hz1); have c0 := fun o => hb1.cell (p := ⟨w.heap.size, o, none⟩) sd; have c1 := fun o => hb1.cell (p := ⟨w.heap.size + 1, o, none⟩) sd; have f0 := fun o => hb1.frozen (p := ⟨w.heap.size, o, none⟩) sd; have f1 := fun o => hb1.frozen (p := ⟨w.heap.size + 1, o, none⟩) sd; have hB1 : Below w.heap.size w w1 := bel; clear hb1)
  go_ret
  exact ⟨by rw [H.out]; rfl, hB1⟩
theorem fChange_c (p m clear p' m' : Int) (w : World) (h1 : fvalid p m = true) (h2 : fvalid p' m' = true) (h3 : clear ≤ 16777215)
  (h4 : bits .and .u32 clear (bits .or .u32 p' m') = 0) :
  Calls Tryz.prog 219 #[sndV p m, .int .u32 clear, sndV p' m'] w fun e w' =>
   e = .returned (.tuple #[sndV (mixI p p' (bits .or .u32 clear (bits .or .u32 p' m'))) (mixI m m' (bits .or .u32 clear (bits .or .u32 p' m'))), .int .i64 0]) ∧ Below w.heap.size w w' := by
 have h4' : (bits .and .u32 clear (bits .or .u32 p' m') == 0) = true := by rw [h4]; rfl
 clear h4
 have h3' : decide (16777215 < clear) = false := by simpa using h3
 go_enter Tryz.func219, Tryz.ntmps219
 go_wp2_with (first | (go_at_call 152; refine (fValid_c _ _ _).mono ?_; rintro e w1 ⟨rfl, hb1⟩; have hz1 := bsize hb1; (try simp only [World.size_alloc, World.size_drew, World.size_setCell] at hz1); have c0 := fun o => hb1.cell (p := ⟨w.heap.size, o, none⟩) sd; have c1 := fun o => hb1.cell (p := ⟨w.heap.size + 1, o, none⟩) sd; have c2 := fun o => hb1.cell (p := ⟨w.heap.size + 1 + 1, o, none⟩) sd; have f0 := fun o => hb1.frozen (p := ⟨w.heap.size, o, none⟩) sd; have f1 := fun o => hb1.frozen (p := ⟨w.heap.size + 1, o, none⟩) sd; have f2 := fun o => hb1.frozen (p := ⟨w.heap.size + 1 + 1, o, none⟩) sd; have hB1 : Below w.heap.size w w1 := bel; clear hb1) | (go_at_call 228; refine (has_c _ _ _).mono ?_; rintro e w1 ⟨rfl, hb1⟩; have hz1 := bsize hb1; (try simp only [World.size_alloc, World.size_drew, World.size_setCell] at hz1); have c0 := fun o => hb1.cell (p := ⟨w.heap.size, o, none⟩) sd; have c1 := fun o => hb1.cell (p := ⟨w.heap.size + 1, o, none⟩) sd; have c2 := fun o => hb1.cell (p := ⟨w.heap.size + 1 + 1, o, none⟩) sd; have f0 := fun o => hb1.frozen (p := ⟨w.heap.size, o, none⟩) sd; have f1 := fun o => hb1.frozen (p := ⟨w.heap.size + 1, o, none⟩) sd; have f2 := fun o => hb1.frozen (p := ⟨w.heap.size + 1 + 1, o, none⟩) sd; have hB1 : Below w.heap.size w w1 := bel; clear hb1))
 go_region_held3 (fun w' => w'.cell? ⟨w.heap.size, 0, none⟩ = some (.int .u32 p) ∧ w'.cell? ⟨w.heap.size, 1, none⟩ = some (.int .u32 m) ∧ w'.cell? ⟨w.heap.size + 1, 0, none⟩ = some (.int .u32 p') ∧ w'.cell? ⟨w.heap.size + 1, 1, none⟩ = some (.int .u32 m')) (first | (go_keep; done) | ((try dsimp only); ((repeat' apply And.intro) <;> (try simp (disch := omega) only [cell_set_block, cell_new_block, World.cell?_drew]) <;> first | assumption | (simp [*, go_sem]; done))))
  (first | (go_at_call 228; refine (has_c _ _ _).mono ?_; rintro e w1 ⟨rfl, hb1⟩; have hz1 := bsize hb1; (try simp only [World.size_alloc, World.size_drew, World.size_setCell] at hz1); have c0 := fun o => hb1.cell (p := ⟨w.heap.size, o, none⟩) sd; have c1 := fun o => hb1.cell (p := ⟨w.heap.size + 1, o, none⟩) sd; have c2 := fun o => hb1.cell (p := ⟨w.heap.size + 1 + 1, o, none⟩) sd; have f0 := fun o => hb1.frozen (p := ⟨w.heap.size, o, none⟩) sd; have f1 := fun o => hb1.frozen (p := ⟨w.heap.size + 1, o, none⟩) sd; have f2 := fun o => hb1.frozen (p := ⟨w.heap.size + 1 + 1, o, none⟩) sd; have hB1 : Below w.heap.size w w1 := bel; clear hb1) | (go_at_call 229; refine (mix_c _ _ _ _ _ _).mono ?_; rintro e w1 ⟨rfl, hb1⟩; have hz1 := bsize hb1; (try simp only [World.size_alloc, World.size_drew, World.size_setCell] at hz1); have c0 := fun o => hb1.cell (p := ⟨w.heap.size, o, none⟩) sd; have c1 := fun o => hb1.cell (p := ⟨w.heap.size + 1, o, none⟩) sd; have c2 := fun o => hb1.cell (p := ⟨w.heap.size + 1 + 1, o, none⟩) sd; have f0 := fun o => hb1.frozen (p := ⟨w.heap.size, o, none⟩) sd; have f1 := fun o => hb1.frozen (p := ⟨w.heap.size + 1, o, none⟩) sd; have f2 := fun o => hb1.frozen (p := ⟨w.heap.size + 1 + 1, o, none⟩) sd; have hB1 : Below w.heap.size w w1 := bel; clear hb1))
 go_wp2
 exact bodyPost_ret (v := .tuple #[sndV (mixI p p' (bits .or .u32 clear (bits .or .u32 p' m'))) (mixI m m' (bits .or .u32 clear (bits .or .u32 p' m'))), .int .i64 0])
  (by simp [results, Tryz.results219, go_sem, *]) rfl ⟨rfl, bel⟩
theorem fTake_c (p m p' m' mask : Int) (w : World) (h1 : fvalid p m = true) (h2 : fvalid p' m' = true) (h3 : mask ≤ 16777215) :
  Calls Tryz.prog 220 #[sndV p m, sndV p' m', .int .u32 mask] w fun e w' =>
   e = .returned (.tuple #[sndV (mixI p p' mask) (mixI m m' mask), .int .i64 0]) ∧ Below w.heap.size w w' := by
 have h3' : decide (16777215 < mask) = false := by simpa using h3
 go_enter Tryz.func220, Tryz.ntmps220
 go_wp2_with (first | (go_at_call 152; refine (fValid_c _ _ _).mono ?_; rintro e w1 ⟨rfl, hb1⟩; have hz1 := bsize hb1; (try simp only [World.size_alloc, World.size_drew, World.size_setCell] at hz1); have c0 := fun o => hb1.cell (p := ⟨w.heap.size, o, none⟩) sd; have c1 := fun o => hb1.cell (p := ⟨w.heap.size + 1, o, none⟩) sd; have c2 := fun o => hb1.cell (p := ⟨w.heap.size + 1 + 1, o, none⟩) sd; have f0 := fun o => hb1.frozen (p := ⟨w.heap.size, o, none⟩) sd; have f1 := fun o => hb1.frozen (p := ⟨w.heap.size + 1, o, none⟩) sd; have f2 := fun o => hb1.frozen (p := ⟨w.heap.size + 1 + 1, o, none⟩) sd; have hB1 : Below w.heap.size w w1 := bel; clear hb1) | (go_at_call 229; refine (mix_c _ _ _ _ _ _).mono ?_; rintro e w1 ⟨rfl, hb1⟩; have hz1 := bsize hb1; (try simp only [World.size_alloc, World.size_drew, World.size_setCell] at hz1); have c0 := fun o => hb1.cell (p := ⟨w.heap.size, o, none⟩) sd; have c1 := fun o => hb1.cell (p := ⟨w.heap.size + 1, o, none⟩) sd; have c2 := fun o => hb1.cell (p := ⟨w.heap.size + 1 + 1, o, none⟩) sd; have f0 := fun o => hb1.frozen (p := ⟨w.heap.size, o, none⟩) sd; have f1 := fun o => hb1.frozen (p := ⟨w.heap.size + 1, o, none⟩) sd; have f2 := fun o => hb1.frozen (p := ⟨w.heap.size + 1 + 1, o, none⟩) sd; have hB1 : Below w.heap.size w w1 := bel; clear hb1))
 exact bodyPost_ret (v := .tuple #[sndV (mixI p p' mask) (mixI m m' mask), .int .i64 0])
  (by simp [results, Tryz.results220, go_sem, *]) rfl ⟨rfl, bel⟩
def okChange (s : Snd) (clear : Int) (t : Snd) : Bool := fvalid s.1 s.2 && fvalid t.1 t.2 && decide (clear ≤ 16777215) && bits .and .u32 clear (bits .or .u32 t.1 t.2) == 0
def changeM (s : Snd) (clear : Int) (t : Snd) : Snd :=
 if okChange s clear t then (mixI s.1 t.1 (bits .or .u32 clear (bits .or .u32 t.1 t.2)), mixI s.2 t.2 (bits .or .u32 clear (bits .or .u32 t.1 t.2))) else (0, 0)
def takeM (s t : Snd) (mask : Int) : Snd := if fvalid s.1 s.2 && fvalid t.1 t.2 && decide (mask ≤ 16777215) then (mixI s.1 t.1 mask, mixI s.2 t.2 mask) else (0, 0)
def RetSnd (w : World) (s : Snd) (e : Ending) (w' : World) : Prop := ∃ er : Int, e = .returned (.tuple #[sndV s.1 s.2, .int .i64 er]) ∧ Below w.heap.size w w'
theorem change_c (p m clear p' m' : Int) (w : World) : Calls Tryz.prog 219 #[sndV p m, .int .u32 clear, sndV p' m'] w (RetSnd w (changeM (p, m) clear (p', m'))) := by
 by_cases h1 : fvalid p m = true
 ·by_cases h2 : fvalid p' m' = true
  ·by_cases h3 : clear ≤ 16777215
   ·by_cases h4 : bits .and .u32 clear (bits .or .u32 p' m') = 0
    ·have hv : changeM (p, m) clear (p', m') = (mixI p p' (bits .or .u32 clear (bits .or .u32 p' m')), mixI m m' (bits .or .u32 clear (bits .or .u32 p' m'))) := by simp [changeM, okChange, h1, h2, h3, h4]
     rw [hv]
     exact (fChange_c p m clear p' m' w h1 h2 h3 h4).mono fun e w' ⟨h, hb⟩ => ⟨0, h, hb⟩
    ·have hv : changeM (p, m) clear (p', m') = (0, 0) := by simp [changeM, okChange, h4]
     have H := hI hv; clear hv
     have h3' : decide (16777215 < clear) = false := by simpa using h3
     have h4' : (bits .and .u32 clear (bits .or .u32 p' m') == 0) = false := by simpa using h4
     have h4'' : (bits .and .u32 clear (bits .or .u32 p' m') != 0) = true := by simpa using h4
     clear h4
     go_enter Tryz.func219, Tryz.ntmps219
     go_wp2_with (first | (go_at_call 152; refine (fValid_c _ _ _).mono ?_; rintro e w1 ⟨rfl, hb1⟩; have hz1 := bsize hb1; (try simp only [World.size_alloc, World.size_drew, World.size_setCell] at hz1); have c0 := fun o => hb1.cell (p := ⟨w.heap.size, o, none⟩) sd; have c1 := fun o => hb1.cell (p := ⟨w.heap.size + 1, o, none⟩) sd; have c2 := fun o => hb1.cell (p := ⟨w.heap.size + 1 + 1, o, none⟩) sd; have f0 := fun o => hb1.frozen (p := ⟨w.heap.size, o, none⟩) sd; have f1 := fun o => hb1.frozen (p := ⟨w.heap.size + 1, o, none⟩) sd; have f2 := fun o => hb1.frozen (p := ⟨w.heap.size + 1 + 1, o, none⟩) sd; have hB1 : Below w.heap.size w w1 := bel; clear hb1) | (go_at_call 228; refine (has_c _ _ _).mono ?_; rintro e w1 ⟨rfl, hb1⟩; have hz1 := bsize hb1; (try simp only [World.size_alloc, World.size_drew, World.size_setCell] at hz1); have c0 := fun o => hb1.cell (p := ⟨w.heap.size, o, none⟩) sd; have c1 := fun o => hb1.cell (p := ⟨w.heap.size + 1, o, none⟩) sd; have c2 := fun o => hb1.cell (p := ⟨w.heap.size + 1 + 1, o, none⟩) sd; have f0 := fun o => hb1.frozen (p := ⟨w.heap.size, o, none⟩) sd; have f1 := fun o => hb1.frozen (p := ⟨w.heap.size + 1, o, none⟩) sd; have f2 := fun o => hb1.frozen (p := ⟨w.heap.size + 1 + 1, o, none⟩) sd; have hB1 : Below w.heap.size w w1 := bel; clear hb1))
     all_goals exact bodyPost_ret (v := .tuple #[sndV 0 0, .int .i64 2]) (by simp [results, Tryz.results219, go_sem, *]) rfl ⟨2, by rw [H.out], bel⟩
   ·have hv : changeM (p, m) clear (p', m') = (0, 0) := by simp [changeM, okChange, h3]
    have H := hI hv; clear hv
    have h3' : 16777215 < clear := by omega
    go_enter Tryz.func219, Tryz.ntmps219
    go_wp2_with (first | (go_at_call 152; refine (fValid_c _ _ _).mono ?_; rintro e w1 ⟨rfl, hb1⟩; have hz1 := bsize hb1; (try simp only [World.size_alloc, World.size_drew, World.size_setCell] at hz1); have c0 := fun o => hb1.cell (p := ⟨w.heap.size, o, none⟩) sd; have c1 := fun o => hb1.cell (p := ⟨w.heap.size + 1, o, none⟩) sd; have c2 := fun o => hb1.cell (p := ⟨w.heap.size + 1 + 1, o, none⟩) sd; have f0 := fun o => hb1.frozen (p := ⟨w.heap.size, o, none⟩) sd; have f1 := fun o => hb1.frozen (p := ⟨w.heap.size + 1, o, none⟩) sd; have f2 := fun o => hb1.frozen (p := ⟨w.heap.size + 1 + 1, o, none⟩) sd; have hB1 : Below w.heap.size w w1 := bel; clear hb1) | (go_at_call 228; refine (has_c _ _ _).mono ?_; rintro e w1 ⟨rfl, hb1⟩; have hz1 := bsize hb1; (try simp only [World.size_alloc, World.size_drew, World.size_setCell] at hz1); have c0 := fun o => hb1.cell (p := ⟨w.heap.size, o, none⟩) sd; have c1 := fun o => hb1.cell (p := ⟨w.heap.size + 1, o, none⟩) sd; have c2 := fun o => hb1.cell (p := ⟨w.heap.size + 1 + 1, o, none⟩) sd; have f0 := fun o => hb1.frozen (p := ⟨w.heap.size, o, none⟩) sd; have f1 := fun o => hb1.frozen (p := ⟨w.heap.size + 1, o, none⟩) sd; have f2 := fun o => hb1.frozen (p := ⟨w.heap.size + 1 + 1, o, none⟩) sd; have hB1 : Below w.heap.size w w1 := bel; clear hb1))
    all_goals exact bodyPost_ret (v := .tuple #[sndV 0 0, .int .i64 2]) (by simp [results, Tryz.results219, go_sem, *]) rfl ⟨2, by rw [H.out], bel⟩
  ·have h2' : fvalid p' m' = false := by simpa using h2
   have hv : changeM (p, m) clear (p', m') = (0, 0) := by simp [changeM, okChange, h2']
   have H := hI hv; clear hv h2
   go_enter Tryz.func219, Tryz.ntmps219
   go_wp2_with (first | (go_at_call 152; refine (fValid_c _ _ _).mono ?_; rintro e w1 ⟨rfl, hb1⟩; have hz1 := bsize hb1; (try simp only [World.size_alloc, World.size_drew, World.size_setCell] at hz1); have c0 := fun o => hb1.cell (p := ⟨w.heap.size, o, none⟩) sd; have c1 := fun o => hb1.cell (p := ⟨w.heap.size + 1, o, none⟩) sd; have c2 := fun o => hb1.cell (p := ⟨w.heap.size + 1 + 1, o, none⟩) sd; have f0 := fun o => hb1.frozen (p := ⟨w.heap.size, o, none⟩) sd; have f1 := fun o => hb1.frozen (p := ⟨w.heap.size + 1, o, none⟩) sd; have f2 := fun o => hb1.frozen (p := ⟨w.heap.size + 1 + 1, o, none⟩) sd; have hB1 : Below w.heap.size w w1 := bel; clear hb1) | (go_at_call 228; refine (has_c _ _ _).mono ?_; rintro e w1 ⟨rfl, hb1⟩; have hz1 := bsize hb1; (try simp only [World.size_alloc, World.size_drew, World.size_setCell] at hz1); have c0 := fun o => hb1.cell (p := ⟨w.heap.size, o, none⟩) sd; have c1 := fun o => hb1.cell (p := ⟨w.heap.size + 1, o, none⟩) sd; have c2 := fun o => hb1.cell (p := ⟨w.heap.size + 1 + 1, o, none⟩) sd; have f0 := fun o => hb1.frozen (p := ⟨w.heap.size, o, none⟩) sd; have f1 := fun o => hb1.frozen (p := ⟨w.heap.size + 1, o, none⟩) sd; have f2 := fun o => hb1.frozen (p := ⟨w.heap.size + 1 + 1, o, none⟩) sd; have hB1 : Below w.heap.size w w1 := bel; clear hb1))
   all_goals exact bodyPost_ret (v := .tuple #[sndV 0 0, .int .i64 14]) (by simp [results, Tryz.results219, go_sem, *]) rfl ⟨14, by rw [H.out], bel⟩
 ·have h1' : fvalid p m = false := by simpa using h1
  have hv : changeM (p, m) clear (p', m') = (0, 0) := by simp [changeM, okChange, h1']
  have H := hI hv; clear hv h1
  go_enter Tryz.func219, Tryz.ntmps219
  go_wp2_with (first | (go_at_call 152; refine (fValid_c _ _ _).mono ?_; rintro e w1 ⟨rfl, hb1⟩; have hz1 := bsize hb1; (try simp only [World.size_alloc, World.size_drew, World.size_setCell] at hz1); have c0 := fun o => hb1.cell (p := ⟨w.heap.size, o, none⟩) sd; have c1 := fun o => hb1.cell (p := ⟨w.heap.size + 1, o, none⟩) sd; have c2 := fun o => hb1.cell (p := ⟨w.heap.size + 1 + 1, o, none⟩) sd; have f0 := fun o => hb1.frozen (p := ⟨w.heap.size, o, none⟩) sd; have f1 := fun o => hb1.frozen (p := ⟨w.heap.size + 1, o, none⟩) sd; have f2 := fun o => hb1.frozen (p := ⟨w.heap.size + 1 + 1, o, none⟩) sd; have hB1 : Below w.heap.size w w1 := bel; clear hb1) | (go_at_call 228; refine (has_c _ _ _).mono ?_; rintro e w1 ⟨rfl, hb1⟩; have hz1 := bsize hb1; (try simp only [World.size_alloc, World.size_drew, World.size_setCell] at hz1); have c0 := fun o => hb1.cell (p := ⟨w.heap.size, o, none⟩) sd; have c1 := fun o => hb1.cell (p := ⟨w.heap.size + 1, o, none⟩) sd; have c2 := fun o => hb1.cell (p := ⟨w.heap.size + 1 + 1, o, none⟩) sd; have f0 := fun o => hb1.frozen (p := ⟨w.heap.size, o, none⟩) sd; have f1 := fun o => hb1.frozen (p := ⟨w.heap.size + 1, o, none⟩) sd; have f2 := fun o => hb1.frozen (p := ⟨w.heap.size + 1 + 1, o, none⟩) sd; have hB1 : Below w.heap.size w w1 := bel; clear hb1))
  all_goals exact bodyPost_ret (v := .tuple #[sndV 0 0, .int .i64 14]) (by simp [results, Tryz.results219, go_sem, *]) rfl ⟨14, by rw [H.out], bel⟩
theorem take_c (p m p' m' mask : Int) (w : World) : Calls Tryz.prog 220 #[sndV p m, sndV p' m', .int .u32 mask] w (RetSnd w (takeM (p, m) (p', m') mask)) := by
 by_cases h1 : fvalid p m = true
 ·by_cases h2 : fvalid p' m' = true
  ·by_cases h3 : mask ≤ 16777215
   ·have hv : takeM (p, m) (p', m') mask = (mixI p p' mask, mixI m m' mask) := by simp [takeM, h1, h2, h3]
    rw [hv]
    exact (fTake_c p m p' m' mask w h1 h2 h3).mono fun e w' ⟨h, hb⟩ => ⟨0, h, hb⟩
   ·have hv : takeM (p, m) (p', m') mask = (0, 0) := by simp [takeM, h3]
    have H := hI hv; clear hv
    have h3' : 16777215 < mask := by omega
    go_enter Tryz.func220, Tryz.ntmps220
    go_wp2_with (first | (go_at_call 152; refine (fValid_c _ _ _).mono ?_; rintro e w1 ⟨rfl, hb1⟩; have hz1 := bsize hb1; (try simp only [World.size_alloc, World.size_drew, World.size_setCell] at hz1); have c0 := fun o => hb1.cell (p := ⟨w.heap.size, o, none⟩) sd; have c1 := fun o => hb1.cell (p := ⟨w.heap.size + 1, o, none⟩) sd; have c2 := fun o => hb1.cell (p := ⟨w.heap.size + 1 + 1, o, none⟩) sd; have f0 := fun o => hb1.frozen (p := ⟨w.heap.size, o, none⟩) sd; have f1 := fun o => hb1.frozen (p := ⟨w.heap.size + 1, o, none⟩) sd; have f2 := fun o => hb1.frozen (p := ⟨w.heap.size + 1 + 1, o, none⟩) sd; have hB1 : Below w.heap.size w w1 := bel; clear hb1))
    all_goals exact bodyPost_ret (v := .tuple #[sndV 0 0, .int .i64 2]) (by simp [results, Tryz.results220, go_sem, *]) rfl ⟨2, by rw [H.out], bel⟩
  ·have h2' : fvalid p' m' = false := by simpa using h2
   have hv : takeM (p, m) (p', m') mask = (0, 0) := by simp [takeM, h2']
   have H := hI hv; clear hv h2
   go_enter Tryz.func220, Tryz.ntmps220
   go_wp2_with (first | (go_at_call 152; refine (fValid_c _ _ _).mono ?_; rintro e w1 ⟨rfl, hb1⟩; have hz1 := bsize hb1; (try simp only [World.size_alloc, World.size_drew, World.size_setCell] at hz1); have c0 := fun o => hb1.cell (p := ⟨w.heap.size, o, none⟩) sd; have c1 := fun o => hb1.cell (p := ⟨w.heap.size + 1, o, none⟩) sd; have c2 := fun o => hb1.cell (p := ⟨w.heap.size + 1 + 1, o, none⟩) sd; have f0 := fun o => hb1.frozen (p := ⟨w.heap.size, o, none⟩) sd; have f1 := fun o => hb1.frozen (p := ⟨w.heap.size + 1, o, none⟩) sd; have f2 := fun o => hb1.frozen (p := ⟨w.heap.size + 1 + 1, o, none⟩) sd; have hB1 : Below w.heap.size w w1 := bel; clear hb1))
   all_goals exact bodyPost_ret (v := .tuple #[sndV 0 0, .int .i64 14]) (by simp [results, Tryz.results220, go_sem, *]) rfl ⟨14, by rw [H.out], bel⟩
 ·have h1' : fvalid p m = false := by simpa using h1
  have hv : takeM (p, m) (p', m') mask = (0, 0) := by simp [takeM, h1']
  have H := hI hv; clear hv h1
  go_enter Tryz.func220, Tryz.ntmps220
  go_wp2_with (first | (go_at_call 152; refine (fValid_c _ _ _).mono ?_; rintro e w1 ⟨rfl, hb1⟩; have hz1 := bsize hb1; (try simp only [World.size_alloc, World.size_drew, World.size_setCell] at hz1); have c0 := fun o => hb1.cell (p := ⟨w.heap.size, o, none⟩) sd; have c1 := fun o => hb1.cell (p := ⟨w.heap.size + 1, o, none⟩) sd; have c2 := fun o => hb1.cell (p := ⟨w.heap.size + 1 + 1, o, none⟩) sd; have f0 := fun o => hb1.frozen (p := ⟨w.heap.size, o, none⟩) sd; have f1 := fun o => hb1.frozen (p := ⟨w.heap.size + 1, o, none⟩) sd; have f2 := fun o => hb1.frozen (p := ⟨w.heap.size + 1 + 1, o, none⟩) sd; have hB1 : Below w.heap.size w w1 := bel; clear hb1))
  all_goals exact bodyPost_ret (v := .tuple #[sndV 0 0, .int .i64 14]) (by simp [results, Tryz.results220, go_sem, *]) rfl ⟨14, by rw [H.out], bel⟩
end Go.Proofs.YtaglfmlgbcmakaaGreatDoor

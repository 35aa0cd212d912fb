/-
  The sounds and laws of the examples, in plain words.
  Appends to a list of laws of one's own.
  Slices that are built of laws.
  Slices that are built.
-/
import Derived.Test.YtaglfmlgbcmakaaGreatDoorG15
set_option linter.all false
set_option maxRecDepth 100000
set_option maxHeartbeats 4000000
namespace Go.Proofs.YtaglfmlgbcmakaaGreatDoor
open Go.RowKit Go.Shelf
def sA : Snd := (5, 2)
def sP : Snd := (2, 5)
def sB : Snd := (3, 4)
theorem results_cell_snd {fn : Func} {p : Tmp} (h : fn.results = #[.cell p 49]) (tmps : Array Value) (w : World) (b : Nat) (x y : Int) (hp : tmps.getD p undef = .pointer (some ⟨b, 0, none⟩)) (hr : w.heap[b]? = some (.cells #[.int .u32 x, .int .u32 y] 49 (0, 0))) :
  (results fn tmps).run Tryz.prog w = .ok (sndV x y) w := by
 have hp' : tmps[p]?.getD undef = .pointer (some ⟨b, 0, none⟩) := by simpa using hp
 have h0 := cell_at_heap (j := 0) hr rfl
 have h1 := cell_at_heap (j := 1) hr rfl
 simp [results, h, hp', asAddr, go_sem, h0, h1]
def vowD : Nd × Fo := (⟨1, 4, 0, false, 0, 0⟩, .nil)
def vD : LawD := { name := ⟨#[86]⟩, left := vowD, right := vowD, ifs := [(2, 0)], outs := [⟨0, 0, 1, 0, 0, 0⟩], mode := 1 }
def fD : LawD := { name := ⟨#[70]⟩, left := (⟨0, 0, 0, false, 0, 0⟩, .nil), right := (⟨6, 0, 0, false, 0, 0⟩, .nil), ifs := [(4, 0)], outs := [], mode := 1 }
def RetLaw (w : World) (l : LawD) (e : Ending) (w' : World) : Prop := ∃ a, e = .returned (lawV l a) ∧ LawAt w' l a ∧ Below w.heap.size w w'
theorem FSl_nil (w : World) : FSl w none 0 0 .nil := ⟨⟨rfl, rr, by simp [maxLen], fun _ => rfl⟩, trivial⟩
theorem one_word {w : World} {b : Nat} {s : Snd} {t : TypeId} (h : w.heap[b]? = some (.cells #[.int .u32 s.1, .int .u32 s.2] t (0, 0))) : IsWord w (some ⟨b, 0, none⟩) 1 1 [s] :=
 ⟨rfl, rr, by unfold maxLen; omega, (fun h => by cases h), fun _ => ⟨b, 0, rfl, lt_of_block h, fun j v hv => by rw [Nat.zero_add]; exact cell_at_heap h (by simpa [wcells] using hv)⟩⟩
def lawZ : Value := .agg #[.string ⟨#[]⟩, .int .i64 0, .int .u32 0, .int .u32 0, .bool false, .int .i64 0, .int .i64 0, .slice none 0 0, .int .i64 0, .int .u32 0, .int .u32 0, .bool false, .int .i64 0, .int .i64 0, .slice none 0 0, .slice none 0 0, .slice none 0 0, .int .i64 0]
theorem law_info : (Tryz.prog.info? 55).map (fun i => (i.zero, i.size, i.bytes)) = some (some lawZ, 18, 200) := by kernel_rfl
theorem lawZ_size : lawZ.cells.size = 18 := by kernel_rfl
theorem laws_one (xs : List LawR) : ∀ u ∈ xs.flatMap LawR.cells, u.oneCell' = true := by
 intro u hu
 obtain ⟨x, _, hx⟩ := List.mem_flatMap.1 hu
 have h := law_all x.l x.a
 rw [Array.all_eq_true_iff_forall_mem] at h
 exact h u (by simpa [LawR.cells] using hx)
theorem append_laws {ops : Array Oper} {rest : List Oper} {o : Oper} {a : Act} {w : World} {Q : Exit → Act → World → Prop} (hgd : o.guard = none) (s x : Operand)
  (ho : o.op = .call { callee := .builtin .append, args := #[s, x], argTypes := #[26, 26] })
  (base : Nat) (v : Value) (n : Nat) (xs : List LawR) (hs : a.eval s = v) (hown : w.ownsRow base 55 18 v n (xs.flatMap LawR.cells))
  (A : Option Addr) (m c : Nat) (ys : List LawR) (hx : a.eval x = .slice A m c) (hr : Recs LawR.cells 18 w A m c ys) (hl : n + m ≤ 4096) (hbase : base ≤ w.heap.size)
  (h : ∀ v' w', w'.ownsRow base 55 18 v' (n + m) ((xs ++ ys).flatMap LawR.cells) → w.grownBy w' v.ownBlock → (v' = .slice none 0 0 ↔ v = .slice none 0 0 ∧ m = 0) →
   wpList Tryz.prog ops Q rest (a.put o.dst v') w') : wpList Tryz.prog ops Q (o :: rest) a w := by
 obtain ⟨i0, hi, hz0, hz1, hz2⟩ := info_parts law_info
 refine wpList_append_cells w hgd s x 26 ho base 55 i0 _ 18 200 Tryz.underlying26 hi hz0 hz1 hz2 lawZ_size (by decide) v n _ hs hown A m c _ hx hr.1
  (laws_one ys) (by unfold maxLen; omega) (by omega) hbase ?_
 rw [← List.flatMap_append]
 exact h
def RetLaws (w : World) (xs : List LawR) (e : Ending) (w' : World) : Prop :=
 ∃ A n c, e = .returned (.slice A n c) ∧ IsLaws w' A n c xs ∧ Below w.heap.size w w' ∧ ∀ ad, A = some ad → w.heap.size ≤ ad.block
theorem RetLaws.of_own {w w' : World} {xs : List LawR} {base : Nat} {n : Nat} {v : Value} {e : Ending} (he : e = .returned v) (h : w'.ownsRow base 55 18 v n (xs.flatMap LawR.cells)) (hl : ∀ x ∈ xs, LawAt w' x.l x.a) (hb : Below w.heap.size w w') (hbase : w.heap.size ≤ base) :
  RetLaws w xs e w' := by
 obtain ⟨A, c, rfl⟩ := own_form h
 refine ⟨A, n, c, he, ⟨Recs.of_own h LawR.len (by decide), hl⟩, hb, fun ad had => ?_⟩
 subst had
 exact Nat.le_trans hbase (h.lt ad.block rfl).1
theorem run_build1 (x : LawR) (w : World) : (Instr.buildSlice 26 1 #[(0, lawV x.l x.a)]).run Tryz.prog w = .ok (.slice (some ⟨w.heap.size, 0, none⟩) 1 1) (w.alloc (.cells (x.cells).toArray 55)) := by kernel_rfl
theorem run_build2 (x y : LawR) (w : World) : (Instr.buildSlice 26 2 #[(0, lawV x.l x.a), (1, lawV y.l y.a)]).run Tryz.prog w = .ok (.slice (some ⟨w.heap.size, 0, none⟩) 2 2) (w.alloc (.cells (x.cells ++ y.cells).toArray 55)) := by kernel_rfl
section
variable {ops : Array Oper} {rest : List Oper} {op : Oper} {ac : Act} {w : World} {Q : Exit → Act → World → Prop}
theorem build_law2 (hgd : op.guard = none) (p q : Operand) (ho : op.op = .buildSlice 26 2 #[(0, p), (1, q)]) (x y : LawR) (hp : ac.eval p = lawV x.l x.a) (hq : ac.eval q = lawV y.l y.a)
  (h : wpList Tryz.prog ops Q rest (ac.put op.dst (.slice (some ⟨w.heap.size, 0, none⟩) 2 2)) (w.alloc (.cells (x.cells ++ y.cells).toArray 55))) : wpList Tryz.prog ops Q (op :: rest) ac w := by
 refine wpList_plain hgd fun K hK => ?_
 have hr := run_build2 x y w
 unfold Oper.wp execOp
 simp only [ho, List.map_toArray, List.map_cons, List.map_nil, hp, hq, hr, Sem.run_bind, Sem.run_pure, Result.andThen_ok]
 exact hK _ _ h
theorem build_law1 (hgd : op.guard = none) (p : Operand) (ho : op.op = .buildSlice 26 1 #[(0, p)]) (x : LawR) (hp : ac.eval p = lawV x.l x.a)
  (h : wpList Tryz.prog ops Q rest (ac.put op.dst (.slice (some ⟨w.heap.size, 0, none⟩) 1 1)) (w.alloc (.cells (x.cells).toArray 55))) : wpList Tryz.prog ops Q (op :: rest) ac w := by
 refine wpList_plain hgd fun K hK => ?_
 have hr := run_build1 x w
 unfold Oper.wp execOp
 simp only [ho, List.map_toArray, List.map_cons, List.map_nil, hp, hr, Sem.run_bind, Sem.run_pure, Result.andThen_ok]
 exact hK _ _ h
end
theorem built_laws (w : World) (xs : List LawR) (t : TypeId) (hn : xs.length ≤ 4096) (hl : ∀ x ∈ xs, LawAt w x.l x.a) : IsLaws (w.alloc (.cells (xs.flatMap LawR.cells).toArray t)) (some ⟨w.heap.size, 0, none⟩) xs.length xs.length xs :=
 ⟨⟨⟨flat_len LawR.cells 18 LawR.len xs, rr, by unfold maxLen; omega, (fun h => by cases h), fun _ => ⟨w.heap.size, 0, rfl, by simp, fun j v hv => by rw [Nat.zero_add]; exact cell_new_at (by simpa using hv)⟩⟩, rfl⟩,
  fun x hx => (hl x hx).below ((Below.refl w.heap.size w).alloc rr _) rr⟩
theorem built_laws2 (w : World) (x y : LawR) (t : TypeId) (hx : LawAt w x.l x.a) (hy : LawAt w y.l y.a) : IsLaws (w.alloc (.cells (x.cells ++ y.cells).toArray t)) (some ⟨w.heap.size, 0, none⟩) 2 2 [x, y] := by
 have h := built_laws w [x, y] t (by simp) (fun z hz => by
  simp only [List.mem_cons, List.not_mem_nil, or_false] at hz
  rcases hz with rfl | rfl
  ·exact hx
  ·exact hy)
 simpa [List.flatMap_cons] using h
theorem built_laws1 (w : World) (x : LawR) (t : TypeId) (hx : LawAt w x.l x.a) : IsLaws (w.alloc (.cells (x.cells).toArray t)) (some ⟨w.heap.size, 0, none⟩) 1 1 [x] := by
 have h := built_laws w [x] t (by simp) (fun z hz => by
  obtain rfl : z = x := by simpa using hz
  exact hx)
 simpa [List.flatMap_cons] using h
theorem built_words (w : World) (ps : List Part) (t : TypeId) (hn : ps.length ≤ 4096) (hp : Parts w ps) : IsWords (w.alloc (.cells (ps.map Part.val).toArray t)) (some ⟨w.heap.size, 0, none⟩) ps.length ps.length (ps.map Part.word) :=
 ⟨ps, rfl, ⟨by simp, rr, by unfold maxLen; omega, (fun h => by cases h), fun _ => ⟨w.heap.size, 0, rfl, by simp, fun j v hv => by rw [Nat.zero_add]; exact cell_new_at (by simpa using hv)⟩⟩,
  fun p hp' => (hp p hp').below ((Below.refl w.heap.size w).alloc rr _) rr⟩
end Go.Proofs.YtaglfmlgbcmakaaGreatDoor

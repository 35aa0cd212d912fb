/-
  The sounds and laws of the examples, in plain words.
  Appends to a list of laws of one's own.
  Slices that are built of laws.
  Slices that are built.
-/
import Derived.Test.YtlgliddhideflaaGreatDoorG15
set_option linter.all false
set_option maxRecDepth 100000
set_option maxHeartbeats 4000000
namespace Go.Proofs.YtlgliddhideflaaGreatDoor
open Go.RowKit Go.Shelf
def sA : Snd := (5, 2)
def sP : Snd := (2, 5)
theorem results_cell_snd {fn : Func} {p : Tmp} (h : fn.results = #[.cell p 24]) (tmps : Array Value) (w : World) (b : Nat) (x y : Int) (hp : tmps.getD p undef = .pointer (some ⟨b, 0, none⟩)) (hr : w.heap[b]? = some (.cells #[.int .u32 x, .int .u32 y] 24 (0, 0))) :
  (results fn tmps).run Tryz.prog w = .ok (sndV x y) w := by
 have hp' : tmps[p]?.getD undef = .pointer (some ⟨b, 0, none⟩) := by simpa using hp
 have h0 := cell_at_heap (j := 0) hr rfl
 have h1 := cell_at_heap (j := 1) hr rfl
 simp [results, h, hp', asAddr, go_sem, h0, h1]
def vowD : Nd × Fo := (⟨1, 4, 0, false, 0, 0⟩, .nil)
theorem FSl_nil (w : World) : FSl w none 0 0 .nil := ⟨⟨rfl, rr, by simp [maxLen], fun _ => rfl⟩, trivial⟩
theorem one_word {w : World} {b : Nat} {s : Snd} {t : TypeId} (h : w.heap[b]? = some (.cells #[.int .u32 s.1, .int .u32 s.2] t (0, 0))) : IsWord w (some ⟨b, 0, none⟩) 1 1 [s] :=
 ⟨rfl, rr, by unfold maxLen; omega, (fun h => by cases h), fun _ => ⟨b, 0, rfl, lt_of_block h, fun j v hv => by rw [Nat.zero_add]; exact cell_at_heap h (by simpa [wcells] using hv)⟩⟩
def lawZ : Value := .agg #[.string ⟨#[]⟩, .int .i64 0, .int .u32 0, .int .u32 0, .bool false, .int .i64 0, .int .i64 0, .slice none 0 0, .int .i64 0, .int .u32 0, .int .u32 0, .bool false, .int .i64 0, .int .i64 0, .slice none 0 0, .slice none 0 0, .slice none 0 0, .int .i64 0]
theorem law_info : (Tryz.prog.info? 34).map (fun i => (i.zero, i.size, i.bytes)) = some (some lawZ, 18, 200) := by kernel_rfl
def RetLaws (w : World) (xs : List LawR) (e : Ending) (w' : World) : Prop :=
 ∃ A n c, e = .returned (.slice A n c) ∧ IsLaws w' A n c xs ∧ Below w.heap.size w w' ∧ ∀ ad, A = some ad → w.heap.size ≤ ad.block
theorem RetLaws.of_own {w w' : World} {xs : List LawR} {base : Nat} {n : Nat} {v : Value} {e : Ending} (he : e = .returned v) (h : w'.ownsRow base 34 18 v n (xs.flatMap LawR.cells)) (hl : ∀ x ∈ xs, LawAt w' x.l x.a) (hb : Below w.heap.size w w') (hbase : w.heap.size ≤ base) :
  RetLaws w xs e w' := by
 obtain ⟨A, c, rfl⟩ := own_form h
 refine ⟨A, n, c, he, ⟨Recs.of_own h LawR.len (by decide), hl⟩, hb, fun ad had => ?_⟩
 subst had
 exact Nat.le_trans hbase (h.lt ad.block rfl).1
theorem run_build2 (x y : LawR) (w : World) : (Instr.buildSlice 35 2 #[(0, lawV x.l x.a), (1, lawV y.l y.a)]).run Tryz.prog w = .ok (.slice (some ⟨w.heap.size, 0, none⟩) 2 2) (w.alloc (.cells (x.cells ++ y.cells).toArray 34)) := by kernel_rfl
section
variable {ops : Array Oper} {rest : List Oper} {op : Oper} {ac : Act} {w : World} {Q : Exit → Act → World → Prop}
theorem build_law2 (hgd : op.guard = none) (p q : Operand) (ho : op.op = .buildSlice 35 2 #[(0, p), (1, q)]) (x y : LawR) (hp : ac.eval p = lawV x.l x.a) (hq : ac.eval q = lawV y.l y.a)
  (h : wpList Tryz.prog ops Q rest (ac.put op.dst (.slice (some ⟨w.heap.size, 0, none⟩) 2 2)) (w.alloc (.cells (x.cells ++ y.cells).toArray 34))) : wpList Tryz.prog ops Q (op :: rest) ac w := by
 refine wpList_plain hgd fun K hK => ?_
 have hr := run_build2 x y w
 unfold Oper.wp execOp
 simp only [ho, List.map_toArray, List.map_cons, List.map_nil, hp, hq, hr, Sem.run_bind, Sem.run_pure, Result.andThen_ok]
 exact hK _ _ h
end
theorem built_laws (w : World) (xs : List LawR) (t : TypeId) (hn : xs.length ≤ 4096) (hl : ∀ x ∈ xs, LawAt w x.l x.a) : IsLaws (w.alloc (.cells (xs.flatMap LawR.cells).toArray t)) (some ⟨w.heap.size, 0, none⟩) xs.length xs.length xs :=
 ⟨⟨⟨flat_len LawR.cells 18 LawR.len xs, rr, by unfold maxLen; omega, (fun h => by cases h), fun _ => ⟨w.heap.size, 0, rfl, by simp, fun j v hv => by rw [Nat.zero_add]; exact cell_new_at (by simpa using hv)⟩⟩, rfl⟩,
  fun x hx => (hl x hx).below ((Below.refl w.heap.size w).alloc rr _) rr⟩
theorem built_word (w : World) (xs : List Snd) (t : TypeId) (hn : xs.length ≤ 4096) : IsWord (w.alloc (.cells (wcells xs).toArray t)) (some ⟨w.heap.size, 0, none⟩) xs.length xs.length xs :=
 ⟨wcells_length xs, rr, by unfold maxLen; omega, (fun h => by cases h), fun _ => ⟨w.heap.size, 0, rfl, by simp, fun j v hv => by rw [Nat.zero_add]; exact cell_new_at (by simpa using hv)⟩⟩
theorem built_words (w : World) (ps : List Part) (t : TypeId) (hn : ps.length ≤ 4096) (hp : Parts w ps) : IsWords (w.alloc (.cells (ps.map Part.val).toArray t)) (some ⟨w.heap.size, 0, none⟩) ps.length ps.length (ps.map Part.word) :=
 ⟨ps, rfl, ⟨by simp, rr, by unfold maxLen; omega, (fun h => by cases h), fun _ => ⟨w.heap.size, 0, rfl, by simp, fun j v hv => by rw [Nat.zero_add]; exact cell_new_at (by simpa using hv)⟩⟩,
  fun p hp' => (hp p hp').below ((Below.refl w.heap.size w).alloc rr _) rr⟩
theorem built_ints (w : World) (l : List Int) (t : TypeId) (hn : l.length ≤ 4096) : IsInts (w.alloc (.cells (l.map (Value.int .i64)).toArray t)) (some ⟨w.heap.size, 0, none⟩) l.length l.length l :=
 ⟨by simp, rr, by unfold maxLen; omega, (fun h => by cases h), fun _ => ⟨w.heap.size, 0, rfl, by simp, fun j v hv => by rw [Nat.zero_add]; exact cell_new_at (by simpa using hv)⟩⟩
end Go.Proofs.YtlgliddhideflaaGreatDoor

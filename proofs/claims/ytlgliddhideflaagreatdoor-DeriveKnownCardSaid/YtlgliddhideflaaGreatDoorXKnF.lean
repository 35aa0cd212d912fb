/-
  A law that lies apart; a law is laid into a row of one's own, the others stay.
-/
import Derived.BigFrame
import Derived.Test.YtlgliddhideflaaGreatDoorG35
import Derived.Test.YtlgliddhideflaaGreatDoorG40
set_option linter.all false
set_option maxRecDepth 100000
set_option maxHeartbeats 4000000
namespace Go.Proofs.YtlgliddhideflaaGreatDoor
open Go.RowKit Go.Shelf
theorem exFF_c (w : World) : Calls Tryz.prog 17 #[] w fun e w' => ∃ b : Nat, e = .returned (lawV fD ⟨none, 0, none, 0, some ⟨b, 0, none⟩, 1, none, 0⟩) ∧ w.heap.size ≤ b ∧ LawAt w' fD ⟨none, 0, none, 0, some ⟨b, 0, none⟩, 1, none, 0⟩ ∧ Below w.heap.size w w' := by
 obtain ⟨a, ha⟩ : ∃ a : LawA, a = { Al := none, cl := 0, Ar := none, cr := 0, Ai := some ⟨w.heap.size + 1, 0, none⟩, ci := 1, Ao := none, co := 0 } := ⟨_, rfl⟩
 go_enter Tryz.func17, Tryz.ntmps17
 go_wp2_with (refine store_law rfl (.tmp 0) (.tmp 4) rfl w.heap.size fD a rfl (by rw [ha]; rfl) (t := 34) ((heap_old_at (by simp)).trans (heap_new_at rfl)) rfl ?_; intro W1 g1 g2 g3)
 have h1 := (g2.block (w.heap.size + 1) (by simp) (by omega)).trans (heap_new_at (by simp))
 refine bodyPost_ret (results_cell_law Tryz.results17 _ _ w.heap.size fD a rfl g1) rfl ⟨w.heap.size + 1, by rw [ha], by omega, ?_, ?_⟩
 ·exact ⟨FSl_nil _, FSl_nil _, one_word (s := (4, 0)) h1, ⟨Cells.nil _ _, rfl⟩, by decide⟩
 ·exact Below.trans bel (g2.to_below (B := w.heap.size) (fun k hk => by omega) (by simp; omega))
theorem run_mk04 (w : World) : (Instr.makeSlice 32 (.int .i64 0) (.int .i64 4)).run Tryz.prog w = .ok (.slice (some ⟨w.heap.size, 0, none⟩) 0 4) (w.alloc (.cells (madeCells #[Value.int .u32 0, .int .u32 0] 8) 24)) := by
 obtain ⟨i, hi, hzz⟩ := Option.map_eq_some_iff.1 snd_info
 simp only [Prod.mk.injEq] at hzz
 obtain ⟨hz, hs, hb⟩ := hzz
 have hr := run_make (P := Tryz.prog) w 32 24 i _ Tryz.underlying32 hi hz .i64 .i64 0 4 (by omega) (by omega) (by rw [hb]; omega) (by omega)
 rw [hs] at hr
 exact hr
theorem own_mk04 (w : World) : (w.alloc (.cells (madeCells #[Value.int .u32 0, .int .u32 0] 8) 24)).ownsRow w.heap.size 24 2 (.slice (some ⟨w.heap.size, 0, none⟩) 0 4) 0 (wcells []) :=
 World.ownsRow_made w _ 4 rr (by unfold maxLen; omega) (by simp [size_madeCells])
theorem own_lo {w : World} {b b' : Nat} {e : TypeId} {sz n : Nat} {v : Value} {xs : List Value} (h : w.ownsRow b e sz v n xs) (hb : b' ≤ b) : w.ownsRow b' e sz v n xs := by
 obtain ⟨h1, h2 | ⟨g, cap, cur, h2, h3, h4⟩⟩ := h
 ·exact ⟨h1, .inl h2⟩
 ·exact ⟨h1, .inr ⟨g, cap, cur, h2, by omega, h4⟩⟩
theorem upon_append_snd {o : Oper} {a : Act} {K : Act → World → Prop} {Q : Exit → Act → World → Prop} (w : World) (s x : Operand)
  (ho : o.op = .call { callee := .builtin .append, args := #[s, x], argTypes := #[32, 32] })
  (base : Nat) (v : Value) (n : Nat) (xs : List Snd) (hs : a.eval s = v) (hown : w.ownsRow base 24 2 v n (wcells xs))
  (A : Option Addr) (m c : Nat) (ys : List Snd) (hx : a.eval x = .slice A m c) (hr : IsWord w A m c ys) (hl : n + m ≤ 4096) (hbase : base ≤ w.heap.size)
  (h : ∀ v' w', w'.ownsRow base 24 2 v' (n + m) (wcells (xs ++ ys)) → w.grownBy w' v.ownBlock → K (a.put o.dst v') w') : o.wp Tryz.prog a w K Q := by
 obtain ⟨i0, hi, hz0, hz1, hz2⟩ := info_parts snd_info
 refine wp_append_cells w s x 32 ho base 24 i0 _ 2 8 Tryz.underlying32 hi hz0 hz1 hz2 rfl (by decide) v n (wcells xs) hs hown A m c (wcells ys) hx hr
  (wcells_one ys) (by unfold maxLen; omega) (by omega) hbase ?_
 rw [← wcells_append]
 exact fun v' w' h1 h2 _ => h v' w' h1 h2
theorem append_full {ops : Array Oper} {rest : List Oper} {o : Oper} {a : Act} {w : World} {Q : Exit → Act → World → Prop} (hgd : o.guard = none) (s x : Operand)
  (ho : o.op = .call { callee := .builtin .append, args := #[s, x], argTypes := #[32, 32] })
  (A : Option Addr) (n : Nat) (xs : List Snd) (hs : a.eval s = .slice A n n) (hxs : IsWord w A n n xs) (h0 : 0 < n)
  (A' : Option Addr) (m c : Nat) (ys : List Snd) (hx : a.eval x = .slice A' m c) (hys : IsWord w A' m c ys) (h1 : 0 < m) (hl : n + m ≤ 4096)
  (h : ∀ c' W, IsWord W (some ⟨w.heap.size, 0, none⟩) (n + m) c' (xs ++ ys) → Below w.heap.size w W → wpList Tryz.prog ops Q rest (a.put o.dst (.slice (some ⟨w.heap.size, 0, none⟩) (n + m) c')) W) : wpList Tryz.prog ops Q (o :: rest) a w := by
 obtain ⟨i0, hi, hz0, hz1, hz2⟩ := info_parts snd_info
 obtain ⟨b, off, rfl, hb, hc⟩ := hxs.2.2.2.2 h0
 obtain ⟨b', off', rfl, hb', hc'⟩ := hys.2.2.2.2 h1
 have hgl := grownCap_ge w (n + m) n 24
 have hgm := grownCap_le_maxLen w (n + m) n 24 (by unfold maxLen; omega)
 have hrun := run_append_grow (P := Tryz.prog) w 32 o.type 24 i0 _ Tryz.underlying32 hi hz0 ⟨b, off, none⟩ n n (wcells xs) (by rw [hz1]; exact hxs.1) (fun j v hv => by rw [addr_add]; exact hc j v hv) ⟨b', off', none⟩ m c (wcells ys) (by rw [hz1]; exact hys.1)
  (fun j v hv => by rw [addr_add]; exact hc' j v hv) (by omega) (by omega) (growslice_fits (by omega) (by rw [hz2]; omega))
 refine wpList_plain hgd fun _ hK => ?_
 unfold Oper.wp execOp
 simp only [ho, resolve, invoke, builtin, Sem.run_bind, Sem.run_pure, Result.andThen_ok, List.map_toArray, List.map_cons, List.map_nil, hs, hx, hrun]
 refine hK _ _ (h _ _ ?_ ((Below.refl _ _).drew.alloc rr _))
 refine ⟨by rw [wcells_length, List.length_append, hxs.len, hys.len], hgl, hgm, (fun h => by cases h), fun _ => ⟨w.heap.size, 0, rfl, by simp, fun j v hv => ?_⟩⟩
 rw [Nat.zero_add]
 refine cell_new_at (w := w.drew) ?_
 rw [wcells_append] at hv
 rw [← Array.getElem?_toList, Array.toList_append, Array.toList_append, List.append_assoc, ← List.append_assoc]
 rw [List.getElem?_append_left (by have := (List.getElem?_eq_some_iff.1 hv).1; simpa using this)]
 simpa using hv
section
variable {ops : Array Oper} {rest : List Oper} {op : Oper} {ac : Act} {w : World} {Q : Exit → Act → World → Prop}
theorem store_law_keep (hgd : op.guard = none) (x y : Operand) (ho : op.op = .store 34 x y) {base g n c : Nat} {xs : List LawR} (hown : w.ownsRow base 34 18 (.slice (some ⟨g, 0, none⟩) n c) n (xs.flatMap LawR.cells)) {k : Nat} (hk : k < n) (s : LawR)
  (hx : ac.eval x = .pointer (some ⟨g, k * 18, none⟩)) (hy : ac.eval y = lawV s.l s.a)
  (h : ∀ W, W.ownsRow base 34 18 (.slice (some ⟨g, 0, none⟩) n c) n ((xs.set k s).flatMap LawR.cells) → Keep (fun b => b = g) w W → W.heap.size = w.heap.size → wpList Tryz.prog ops Q rest (ac.put op.dst undef) W) : wpList Tryz.prog ops Q (op :: rest) ac w := by
 refine wpList_store_mid hgd 34 x y ho g (k * 18) (lawCs s.l s.a) hx hy (own_thereL hown hk) (law_size s.l s.a) (law_one s.l s.a) (h _ (own_set LawR.len hown (by decide) hk s) (keep_setCells (S := fun b => b = g) g rfl _ _ _ (Keep.refl _ _)) (size_setCells _ _ _ _))
theorem law1A (hgd : op.guard = none) (p : Operand) (ho : op.op = .buildSlice 35 1 #[(0, p)]) (x : LawR) (hp : ac.eval p = lawV x.l x.a) (hx : LawAt w x.l x.a)
  (h : ∀ W, IsLaws W (some ⟨w.heap.size, 0, none⟩) 1 1 [x] → Below w.heap.size w W → W.heap.size = w.heap.size + 1 → (∀ {B e sz v n xs}, w.ownsRow B e sz v n xs → W.ownsRow B e sz v n xs) → wpList Tryz.prog ops Q rest (ac.put op.dst (.slice (some ⟨w.heap.size, 0, none⟩) 1 1)) W) : wpList Tryz.prog ops Q (op :: rest) ac w :=
 build_law1 hgd p ho x hp (h _ (built_laws1 w x 34 hx) bel (by simp) (fun h => h.alloc _))
theorem law2A (hgd : op.guard = none) (p q : Operand) (ho : op.op = .buildSlice 35 2 #[(0, p), (1, q)]) (x y : LawR) (hp : ac.eval p = lawV x.l x.a) (hq : ac.eval q = lawV y.l y.a) (hx : LawAt w x.l x.a) (hy : LawAt w y.l y.a)
  (h : ∀ W, IsLaws W (some ⟨w.heap.size, 0, none⟩) 2 2 [x, y] → Below w.heap.size w W → W.heap.size = w.heap.size + 1 → wpList Tryz.prog ops Q rest (ac.put op.dst (.slice (some ⟨w.heap.size, 0, none⟩) 2 2)) W) : wpList Tryz.prog ops Q (op :: rest) ac w :=
 build_law2 hgd p q ho x y hp hq (h _ (built_laws2 w x y 34 hx hy) bel (by simp))
theorem law3A (hgd : op.guard = none) (p q r : Operand) (ho : op.op = .buildSlice 35 3 #[(0, p), (1, q), (2, r)]) (x y z : LawR) (hp : ac.eval p = lawV x.l x.a) (hq : ac.eval q = lawV y.l y.a) (hr : ac.eval r = lawV z.l z.a) (hx : LawAt w x.l x.a) (hy : LawAt w y.l y.a) (hz : LawAt w z.l z.a)
  (h : ∀ W, IsLaws W (some ⟨w.heap.size, 0, none⟩) 3 3 [x, y, z] → Below w.heap.size w W → W.heap.size = w.heap.size + 1 → wpList Tryz.prog ops Q rest (ac.put op.dst (.slice (some ⟨w.heap.size, 0, none⟩) 3 3)) W) : wpList Tryz.prog ops Q (op :: rest) ac w :=
 build_law3 hgd p q r ho x y z hp hq hr (h _ (built_laws3 w x y z 34 hx hy hz) bel (by simp))
theorem law1W (hw : Region.wanted op (yielded ops ac.tmps) = true) (p : Operand) (ho : op.op = .buildSlice 35 1 #[(0, p)]) (x : LawR) (hp : ac.eval p = lawV x.l x.a) (hx : LawAt w x.l x.a)
  (h : ∀ W, IsLaws W (some ⟨w.heap.size, 0, none⟩) 1 1 [x] → Below w.heap.size w W → W.heap.size = w.heap.size + 1 → wpList Tryz.prog ops Q rest (ac.put op.dst (.slice (some ⟨w.heap.size, 0, none⟩) 1 1)) W) : wpList Tryz.prog ops Q (op :: rest) ac w :=
 BigFrame.wpList_want hw fun K hK => by
  have hr := run_build1 x w
  unfold Oper.wp execOp
  simp only [ho, List.map_toArray, List.map_cons, List.map_nil, hp, hr, Sem.run_bind, Sem.run_pure, Result.andThen_ok]
  exact hK _ _ (h _ (built_laws1 w x 34 hx) bel (by simp))
theorem upon_law2 {o : Oper} {a : Act} {K : Act → World → Prop} (w : World) (p q : Operand) (ho : o.op = .buildSlice 35 2 #[(0, p), (1, q)]) (x y : LawR) (hp : a.eval p = lawV x.l x.a) (hq : a.eval q = lawV y.l y.a) (hx : LawAt w x.l x.a) (hy : LawAt w y.l y.a)
  (h : ∀ W, IsLaws W (some ⟨w.heap.size, 0, none⟩) 2 2 [x, y] → Below w.heap.size w W → W.heap.size = w.heap.size + 1 → K (a.put o.dst (.slice (some ⟨w.heap.size, 0, none⟩) 2 2)) W) : o.wp Tryz.prog a w K Q := by
 have hr := run_build2 x y w
 unfold Oper.wp execOp
 simp only [ho, List.map_toArray, List.map_cons, List.map_nil, hp, hq, hr, Sem.run_bind, Sem.run_pure, Result.andThen_ok]
 exact h _ (built_laws2 w x y 34 hx hy) bel (by simp)
theorem upon_law1 {o : Oper} {a : Act} {K : Act → World → Prop} (w : World) (p : Operand) (ho : o.op = .buildSlice 35 1 #[(0, p)]) (x : LawR) (hp : a.eval p = lawV x.l x.a) (hx : LawAt w x.l x.a)
  (h : ∀ W, IsLaws W (some ⟨w.heap.size, 0, none⟩) 1 1 [x] → Below w.heap.size w W → W.heap.size = w.heap.size + 1 → K (a.put o.dst (.slice (some ⟨w.heap.size, 0, none⟩) 1 1)) W) : o.wp Tryz.prog a w K Q := by
 have hr := run_build1 x w
 unfold Oper.wp execOp
 simp only [ho, List.map_toArray, List.map_cons, List.map_nil, hp, hr, Sem.run_bind, Sem.run_pure, Result.andThen_ok]
 exact h _ (built_laws1 w x 34 hx) bel (by simp)
end
end Go.Proofs.YtlgliddhideflaaGreatDoor

/-
  A row of one's own: its last element is written; two operations of a region in either order.
  Lists of records in memory: each of them some cells.
-/
import Derived.Deep.MidRow
import Derived.Maps.AppendAt
import Derived.Test.YtaglfmlgbcmakaaGreatDoorG02
set_option linter.all false
set_option maxRecDepth 100000
set_option maxHeartbeats 4000000
namespace Go.Proofs.YtaglfmlgbcmakaaGreatDoor
open Go.RowKit
theorem own_cut {w : World} {base : Nat} {e : TypeId} {sz n c : Nat} {A : Option Addr} {xs : List Value} (h : w.ownsRow base e sz (.slice A (n + 1) c) (n + 1) xs) :
  w.ownsRow base e sz (.slice A n c) n (xs.take (n * sz)) := by
 obtain ⟨h1, h2⟩ := h
 have hle : n * sz ≤ (n + 1) * sz := Nat.mul_le_mul_right _ (by omega)
 refine ⟨by rw [List.length_take]; omega, ?_⟩
 rcases h2 with ⟨_, h⟩ | ⟨g, cap, cur, e1, e2, e3, e4, e5, e6, e7⟩
 ·omega
 ·obtain ⟨rfl, rfl⟩ : A = some ⟨g, 0, none⟩ ∧ c = cap := by simpa using e1
  refine Or.inr ⟨g, c, cur, rfl, e2, e3, by omega, e5, e6, ?_⟩
  rw [← e7, List.take_take, Nat.min_eq_left hle]
theorem heap_setCell_same {w : World} {g o : Nat} {u : Value} {cur : Array Value} {e : TypeId} {fr : Nat × Nat} (h : w.heap[g]? = some (.cells cur e fr)) :
  (w.setCell ⟨g, o, none⟩ u).heap[g]? = some (.cells (cur.setIfInBounds o u) e fr) := by
 simp only [World.setCell, Array.getElem?_modify, h]
 simp
theorem heap_setCells_same (g : Nat) (e : TypeId) (fr : Nat × Nat) : ∀ (vs : List Value) (o : Nat) (w : World) (cur : Array Value), w.heap[g]? = some (.cells cur e fr) → o + vs.length ≤ cur.size →
  ∃ cur' : Array Value, (w.setCells g o vs).heap[g]? = some (.cells cur' e fr) ∧ cur'.size = cur.size ∧ cur'.toList = cur.toList.take o ++ vs ++ cur.toList.drop (o + vs.length)
 | [], o, w, cur, h, _ => ⟨cur, h, rfl, by simp⟩
 | v :: vs, o, w, cur, h, hl => by
  have h1 := heap_setCell_same (o := o) (u := v) h
  simp only [List.length_cons] at hl
  obtain ⟨cur', h2, h3, h4⟩ := heap_setCells_same g e fr vs (o + 1) _ _ h1 (by simp; omega)
  refine ⟨cur', h2, by simpa using h3, ?_⟩
  rw [h4]
  have ho : o < cur.toList.length := by simp; omega
  have e1 : (cur.setIfInBounds o v).toList = cur.toList.take o ++ v :: cur.toList.drop (o + 1) := by
   rw [Array.toList_setIfInBounds, List.set_eq_take_append_cons_drop, if_pos ho]
  rw [e1]
  have hto : (cur.toList.take o).length = o := by rw [List.length_take]; omega
  have a1 : (cur.toList.take o ++ v :: cur.toList.drop (o + 1)).take (o + 1) = cur.toList.take o ++ [v] := by
   rw [List.take_append, hto, List.take_of_length_le (by omega), show o + 1 - o = 1 by omega]; rfl
  have a2 : (cur.toList.take o ++ v :: cur.toList.drop (o + 1)).drop (o + 1 + vs.length) = cur.toList.drop (o + (vs.length + 1)) := by
   rw [List.drop_append, hto, List.drop_eq_nil_of_le (by omega), show o + 1 + vs.length - o = vs.length + 1 by omega, List.nil_append, List.drop_succ_cons, List.drop_drop]
   congr 1; omega
  rw [a1, a2]
  simp
theorem heap_setCells_other (g k : Nat) (hk : k ≠ g) : ∀ (vs : List Value) (o : Nat) (w : World), (w.setCells g o vs).heap[k]? = w.heap[k]?
 | [], _, _ => rfl
 | v :: vs, o, w => (heap_setCells_other g k hk vs (o + 1) _).trans (Below.heap_setCell _ _ _ _ (by simpa using hk))
theorem size_setCells (g : Nat) : ∀ (vs : List Value) (o : Nat) (w : World), (w.setCells g o vs).heap.size = w.heap.size
 | [], _, _ => rfl
 | v :: vs, o, w => (size_setCells g vs (o + 1) _).trans (by simp)
theorem Keep.setCell' {S : Nat → Prop} {w0 w : World} (h : Keep S w0 w) {p : Addr} (hp : S p.block ∨ w0.heap.size ≤ p.block) (u : Value) : Keep S w0 (w.setCell p u) :=
 ⟨h.os, h.tape, h.output, by have := h.size; simpa using this, fun k hk hs => (Below.heap_setCell _ _ _ _ (fun e => by subst e; rcases hp with hp | hp; exact hs hp; omega)).trans (h.block k hk hs)⟩
theorem Keep.setCells {S : Nat → Prop} {w0 : World} (g : Nat) (hg : S g ∨ w0.heap.size ≤ g) : ∀ (vs : List Value) (o : Nat) (w : World), Keep S w0 w → Keep S w0 (w.setCells g o vs)
 | [], _, _, h => h
 | v :: vs, o, w, h => Keep.setCells g hg vs (o + 1) _ (h.setCell' (p := ⟨g, o, none⟩) hg v)
theorem Keep.grown {S : Nat → Prop} {w0 w w' : World} {row : Option Nat} (h : Keep S w0 w) (hg : w.grownBy w' row) (hr : ∀ k, row = some k → S k ∨ w0.heap.size ≤ k) : Keep S w0 w' :=
 ⟨hg.os.trans h.os, hg.tape.trans h.tape, hg.output.trans h.output, Nat.le_trans h.size hg.size, fun k hk hs => (hg.block k (by have := h.size; omega) (fun e => by rcases hr k e.symm with h1 | h1; exact hs h1; omega)).trans (h.block k hk hs)⟩
theorem own_shut {w w' : World} {B base : Nat} {e : TypeId} {sz n : Nat} {v : Value} {xs : List Value} (h : w.ownsRow base e sz v n xs) (hs : Shut B w w') : w'.ownsRow base e sz v n xs := by
 refine ⟨h.1, ?_⟩
 rcases h.2 with hn | ⟨g, cap, cur, rfl, h1, hg, rest⟩
 ·exact Or.inl hn
 ·exact Or.inr ⟨g, cap, cur, rfl, h1, hs.row hg, rest⟩
theorem keep_shut {S : Nat → Prop} {a w w' : World} {B : Nat} (h : Keep S a w) (hs : Shut B w w') (hB : a.heap.size ≤ B) : Keep S a w' :=
 ⟨hs.os.trans h.os, hs.tape.trans h.tape, hs.output.trans h.output, by rw [hs.size]; exact h.size, fun k hk hn => by
  rcases hs.block k with e | ⟨e, _⟩
  ·exact e.trans (h.block k hk hn)
  ·omega⟩
theorem Keep.old {S S' : Nat → Prop} {a w : World} (h : Keep S a w) (hs : ∀ k, k < a.heap.size → S k → S' k) : Keep S' a w := ⟨h.os, h.tape, h.output, h.size, fun k hk hn => h.block k hk (fun x => hn (hs k hk x))⟩
theorem own_there {w : World} {base : Nat} {e : TypeId} {sz n g c : Nat} {xs : List Value} (h : w.ownsRow base e sz (.slice (some ⟨g, 0, none⟩) (n + 1) c) (n + 1) xs) : w.there g (n * sz) sz := by
 rcases h.2 with ⟨_, h⟩ | ⟨g', cap, cur, e1, e2, e3, e4, e5, e6, e7⟩
 ·omega
 ·obtain ⟨rfl, rfl⟩ : g = g' ∧ c = cap := by simpa using e1
  intro j hj
  have hle : (n + 1) * sz ≤ c * sz := Nat.mul_le_mul_right _ e4
  rw [Nat.add_mul] at hle
  refine ⟨?_, by simp [World.frozen?, e3]⟩
  rw [cell_of_row w g (n * sz + j) cur e (0, 0) e3, Array.getElem?_eq_getElem (by omega)]
  rfl
theorem own_push {w : World} {base : Nat} {e : TypeId} {sz n g c : Nat} {xs olds news : List Value} (h : w.ownsRow base e sz (.slice (some ⟨g, 0, none⟩) (n + 1) c) (n + 1) (xs ++ olds)) (hx : xs.length = n * sz) (hn : news.length = sz) :
  (w.setCells g (n * sz) news).ownsRow base e sz (.slice (some ⟨g, 0, none⟩) (n + 1) c) (n + 1) (xs ++ news) := by
 have hl := h.1
 rw [List.length_append, hx, Nat.add_mul] at hl
 rcases h.2 with ⟨_, h⟩ | ⟨g', cap, cur, e1, e2, e3, e4, e5, e6, e7⟩
 ·omega
 ·obtain ⟨rfl, rfl⟩ : g = g' ∧ c = cap := by simpa using e1
  have hle : (n + 1) * sz ≤ c * sz := Nat.mul_le_mul_right _ e4
  rw [Nat.add_mul] at hle
  obtain ⟨cur', h1, h2, h3⟩ := heap_setCells_same g e (0, 0) news (n * sz) w cur e3 (by omega)
  refine ⟨by rw [List.length_append, hx, hn, Nat.add_mul]; omega, Or.inr ⟨g, c, cur', rfl, e2, h1, e4, e5, by omega, ?_⟩⟩
  have hx2 : cur.toList.take (n * sz) = xs := by
   have h5 := congrArg (List.take (n * sz)) e7
   rw [List.take_take, Nat.min_eq_left (by rw [Nat.add_mul]; omega)] at h5
   rw [h5, List.take_append, hx, Nat.sub_self, List.take_zero, List.append_nil, List.take_of_length_le (by omega)]
  rw [h3, hx2, List.take_append, List.take_of_length_le (by rw [List.length_append, hx, hn, Nat.add_mul]; omega), List.length_append, hx, hn, Nat.add_mul, show n * sz + 1 * sz - (n * sz + sz) = 0 by omega, List.take_zero, List.append_nil]
theorem cells_new_block (w : World) (cs : List Value) (t : TypeId) : ∀ j u, cs[j]? = some u → (w.alloc (.cells cs.toArray t)).cell? ((⟨w.heap.size, 0, none⟩ : Addr).add j) = some u := by
 intro j u hu
 rw [addr_add, Nat.zero_add, cell_of_row _ _ _ cs.toArray t (0, 0) (heap_alloc_new w _)]
 simpa using hu
theorem wp_append_own_at {P : Program} {w : World} {o : Oper} {a : Act} {K : Act → World → Prop} {Q : Exit → Act → World → Prop} (s x : Operand) (t : TypeId)
  (ho : o.op = .call { callee := .builtin .append, args := #[s, x], argTypes := #[t, t] })
  (base : Nat) (e : TypeId) (z : Value) (size bytes : Nat) (ht : P.underlying t = some (.slice e)) (hinfo : (P.info? e).map (fun i => (i.zero, i.size, i.bytes)) = some (some z, size, bytes))
  (hzs : z.cells.size = size) (hsz : 0 < size)
  (v : Value) (n : Nat) (xs : List Value) (hs : a.eval s = v) (hown : w.ownsRow base e size v n xs)
  (ad : Addr) (m c : Nat) (news : List Value) (hx : a.eval x = .slice (some ad) m c) (hl : news.length = m * size) (hnews : ∀ j u, news[j]? = some u → w.cell? (ad.add j) = some u) (h1 : ∀ u ∈ news, u.oneCell' = true)
  (h63 : n + m ≤ maxLen) (hbytes : (n + m) * bytes ≤ 140737488355328) (hbase : base ≤ w.heap.size)
  (h : ∀ v' w', w'.ownsRow base e size v' (n + m) (xs ++ news) → w.grownBy w' v.ownBlock → (v' = .slice none 0 0 ↔ v = .slice none 0 0 ∧ m = 0) → (v'.ownBlock = v.ownBlock ∨ v'.ownBlock = some w.heap.size) → K (a.put o.dst v') w') : o.wp P a w K Q := by
 obtain ⟨i, hi, hz, hsize, hby⟩ := info_parts hinfo
 obtain ⟨v', w', hr, h2, h3, h4, h5⟩ := run_append_own_at (P := P) w base t o.type e i z size bytes ht hi hz hsize hby hzs hsz v n xs hown ad m c news hl hnews h1 h63 hbytes hbase
 unfold Oper.wp execOp
 simp only [ho, resolve, invoke, builtin, Sem.run_bind, Sem.run_pure, Result.andThen_ok, List.map_toArray, List.map_cons, List.map_nil, hs, hx, hr]
 exact h v' w' h2 h3 h4 h5
theorem wpListIn_append_at {F : Fence} {n : Nat} {P : Program} {w : World} {ops : Array Oper} {rest : List Oper} {o : Oper} {a : Act} {Q : Exit → Act → World → Prop}
  (hg : o.guard = none) (s x : Operand) (t : TypeId) (hop : o.op = Op.call { callee := Callee.builtin Builtin.append, args := #[s, x], argTypes := #[t, t] })
  (base : Nat) (e : TypeId) (z : Value) (size bytes : Nat) (h1 : P.underlying t = some (.slice e)) (hinfo : (P.info? e).map (fun i => (i.zero, i.size, i.bytes)) = some (some z, size, bytes)) (h6 : z.cells.size = size) (h7 : 0 < size)
  (v : Value) (k : Nat) (xs : List Value) (hs : a.eval s = v) (hown : w.ownsRow base e size v k xs) (ad : Addr) (m c : Nat) (news : List Value) (hx : a.eval x = .slice (some ad) m c) (hn : news.length = m * size)
  (hc : ∀ j u, news[j]? = some u → w.cell? (ad.add j) = some u) (h1c : ∀ u ∈ news, u.oneCell' = true) (b1 : k + m ≤ maxLen) (b2 : (k + m) * bytes ≤ 140737488355328) (b3 : base ≤ w.heap.size)
  (hK : ∀ v' w', w'.ownsRow base e size v' (k + m) (xs ++ news) → w.grownBy w' v.ownBlock → (v'.ownBlock = v.ownBlock ∨ v'.ownBlock = some w.heap.size) → wpListIn F n P ops Q rest (a.put o.dst v') w') :
  wpListIn F n P ops Q (o :: rest) a w := by
 obtain ⟨i, h2, h3, h4, h5⟩ := info_parts hinfo
 refine wpListIn_plain hg fun K hK' => ?_
 obtain ⟨v', w', hrun, r1, r2, _, r3⟩ := run_append_own_at (P := P) w base t o.type e i z size bytes h1 h2 h3 h4 h5 h6 h7 v k xs hown ad m c news hn hc h1c b1 b2 b3
 unfold Oper.wpIn
 refine ⟨?_, ?_⟩
 ·simp [Oper.about, hop, resolve, Target.leads, Sem.run_pure]
 ·rw [Oper.semAt_plain F _ _ (by rw [hop]; intro c hc'; cases hc')]
  unfold execOp
  simp only [hop, resolve, invoke, builtin, Sem.run_bind, Sem.run_pure, Result.andThen_ok, List.map_toArray, List.map_cons, List.map_nil, hs, hx, hrun]
  exact hK' _ _ (hK v' w' r1 r2 r3)
section post
variable {P : Program} {n : Nat} {fn : Func} {R : Ending → World → Prop} {a : Act} {w : World} {B : Nat}
theorem post_tmp {t : Tmp} (hr : fn.results = #[.tmp t]) (v : Value) (hv : a.tmps.getD t undef = v) (hM : Marks B w a.defers) (h : ∀ w', Shut B w w' → R (.returned v) w') : bodyPostM Fence.wide n P fn R .ret a w :=
 post_ret hM fun w' hw' => ⟨v, by rw [← hv]; exact results_tmp hr _ _ _, h w' hw'⟩
end post
section held
variable {P : Program} {ops : Array Oper} {Q : Exit → Act → World → Prop} {md : Region.Mode} {S : World → Prop}
theorem anyT_two {i j : Nat} {oi oj : Oper} {fuel : Nat} {listed : Array Bool} {a : Act} {w : World} (hr : Region.ready md ops listed = [i, j]) (hi : ops[i]? = some oi) (hj : ops[j]? = some oj)
  (h1 : ∀ K' : Act → World → Prop, (∀ a w, (allDone (listed.setIfInBounds i true) = true ∨ S w) ∧ ((allDone (listed.setIfInBounds i true) = true ∨ S w) → anyT P md ops Q S fuel (listed.setIfInBounds i true) a w) → K' a w) →
   if Region.wanted oi (yielded ops a.tmps) = true then Oper.wp P oi a w K' Q else K' (a.put oi.dst undef) w)
  (h2 : ∀ K' : Act → World → Prop, (∀ a w, (allDone (listed.setIfInBounds j true) = true ∨ S w) ∧ ((allDone (listed.setIfInBounds j true) = true ∨ S w) → anyT P md ops Q S fuel (listed.setIfInBounds j true) a w) → K' a w) →
   if Region.wanted oj (yielded ops a.tmps) = true then Oper.wp P oj a w K' Q else K' (a.put oj.dst undef) w) : anyT P md ops Q S (fuel + 1) listed a w := by
 refine ⟨fun h0 => (by rw [hr] at h0; cases h0), fun k hk => ?_⟩
 rw [hr] at hk
 have hk : k = i ∨ k = j := by simpa using hk
 rcases hk with rfl | rfl
 ·have h3 := h1 _ (fun a w h => (⟨h.1, h.2 h.1⟩ : (allDone (listed.setIfInBounds k true) = true ∨ S w) ∧ anyT P md ops Q S fuel (listed.setIfInBounds k true) a w))
  unfold wpOp
  rw [hi]
  simp only
  split
  ·rename_i hw; rw [if_pos hw] at h3; exact .inl h3
  ·rename_i hw; rw [if_neg hw] at h3; exact h3
 ·have h3 := h2 _ (fun a w h => (⟨h.1, h.2 h.1⟩ : (allDone (listed.setIfInBounds k true) = true ∨ S w) ∧ anyT P md ops Q S fuel (listed.setIfInBounds k true) a w))
  unfold wpOp
  rw [hj]
  simp only
  split
  ·rename_i hw; rw [if_pos hw] at h3; exact .inl h3
  ·rename_i hw; rw [if_neg hw] at h3; exact h3
/-! A condition on the world that holds till operation k has come up. -/
def anyK (P : Program) (md : Region.Mode) (ops : Array Oper) (Q : Exit → Act → World → Prop) (S : World → Prop) (k : Nat) : Nat → Array Bool → Act → World → Prop
 | 0, listed, a, w => Region.ready md ops listed = [] ∧ Q .normal a w
 | fuel + 1, listed, a, w =>
  (Region.ready md ops listed = [] → Q .normal a w) ∧
  ∀ i ∈ Region.ready md ops listed, wpOp P ops Q i (fun a' w' => ((listed.setIfInBounds i true).getD k false = true ∨ S w') ∧ anyK P md ops Q S k fuel (listed.setIfInBounds i true) a' w') a w
theorem any_of_K {k : Nat} : ∀ (fuel : Nat) (listed : Array Bool) (a : Act) (w : World), anyK P md ops Q S k fuel listed a w → wpAny P md ops Q fuel listed a w
 | 0, _, _, _, h => h
 | fuel + 1, _, _, _, h => ⟨h.1, fun i hi => wpOp_mono (fun a' w' h' => any_of_K fuel _ a' w' h'.2) (h.2 i hi)⟩
theorem getD_set_mono {l : Array Bool} {k i : Nat} (h : l.getD k false = true) : (l.setIfInBounds i true).getD k false = true := by
 by_cases hik : i = k
 ·subst hik
  rcases Nat.lt_or_ge i l.size with h' | h'
  ·simp [h']
  ·simp [h'] at h
 ·rw [Array.getD_eq_getD_getElem?, Array.getElem?_setIfInBounds_ne hik, ← Array.getD_eq_getD_getElem?]; exact h
theorem anyK_of_T {k : Nat} : ∀ (fuel : Nat) (listed : Array Bool) (a : Act) (w : World), listed.getD k false = true → anyT P md ops Q (fun _ => True) fuel listed a w → anyK P md ops Q S k fuel listed a w
 | 0, _, _, _, _, h => h
 | fuel + 1, _, _, _, hk, h => ⟨h.1, fun i hi => wpOp_mono (fun a' w' h' => ⟨.inl (getD_set_mono hk), anyK_of_T fuel _ a' w' (getD_set_mono hk) h'.2⟩) (h.2 i hi)⟩
theorem not_doneK {l : Array Bool} {k : Nat} (h : l[k]? = some false) : ¬ l.getD k false = true := by
 rw [Array.getD_eq_getD_getElem?, h]; simp
theorem anyK_first {i k : Nat} {oi ok : Oper} {v : Value} (hi : ops[i]? = some oi) (hk : ops[k]? = some ok) (hki : ∃ e ∈ ok.after, Region.binds md e = true ∧ e.on = i)
  (hsel : ∀ (j : Nat) (o : Oper) cs b, ops[j]? = some o → o.op ≠ .select cs b) (hQ : ∀ c a w, Q (.panic c) (a.put oi.dst v) w → Q (.panic c) a w) :
  ∀ (fuel : Nat) (listed : Array Bool) (a : Act) (w : World),
   (∀ j oj, ops[j]? = some oj → j ≠ i → listed.getD j true = false → (∀ e ∈ oj.after, Region.binds md e = true → e.on ≠ i) → oi.apart ops oj = true) →
   i ∈ Region.ready md ops listed → listed[k]? = some false → k ≠ i → YieldsIf P ops S oi v a → S w →
   anyK P md ops Q S k fuel (listed.setIfInBounds i true) (a.put oi.dst v) w → anyK P md ops Q S k (fuel + 1) listed a w := by
 intro fuel
 induction fuel with
 | zero =>
  intro listed a w _ hr hku hne hy hS H
  refine ⟨fun h => (by rw [h] at hr; cases hr), fun j hj => ?_⟩
  by_cases hji : j = i
  ·subst hji; exact hy.wpOp hi hS ⟨.inr hS, H⟩
  ·have := ready_mono hj hji
   rw [H.1] at this
   cases this
 | succ fuel ih =>
  intro listed a w hfree hr hku hne hy hS H
  refine ⟨fun h => (by rw [h] at hr; cases hr), fun j hj => ?_⟩
  by_cases hji : j = i
  ·subst hji; exact hy.wpOp hi hS ⟨.inr hS, H⟩
  ·have h1 := H.2 j (ready_mono hj hji)
   obtain ⟨hjun, oj, hoj, hall⟩ := mem_ready.1 hj
   have hnot : ∀ e ∈ oj.after, Region.binds md e = true → e.on ≠ i := fun e he hb heq => by
    have h1 := hall e he hb
    have h0 := (mem_ready.1 hr).1
    rw [heq] at h1
    rcases Nat.lt_or_ge i listed.size with h' | h'
    ·simp [h'] at h0 h1; rw [h0] at h1; cases h1
    ·simp [Array.getElem?_eq_none h'] at h1
   have hjk : j ≠ k := by
    rintro rfl
    obtain ⟨e, he, hb, hon⟩ := hki
    rw [hk] at hoj; cases hoj
    exact hnot e he hb hon
   have hku1 : (listed.setIfInBounds j true)[k]? = some false := by rw [Array.getElem?_setIfInBounds_ne hjk]; exact hku
   have hku2 : ((listed.setIfInBounds i true).setIfInBounds j true)[k]? = some false := by
    rw [Array.getElem?_setIfInBounds_ne hjk, Array.getElem?_setIfInBounds_ne (Ne.symm hne)]; exact hku
   have h2 := wpOp_putIf hoj (hfree j oj hoj hji hjun hnot) (fun cs b => hsel i oi cs b hi) (fun cs b => hsel j oj cs b hoj) hQ hy h1
   have hfree' : ∀ k ok, ops[k]? = some ok → k ≠ i → (listed.setIfInBounds j true).getD k true = false →
     (∀ e ∈ ok.after, Region.binds md e = true → e.on ≠ i) → oi.apart ops ok = true := fun k ok hk hki hun hno => by
    refine hfree k ok hk hki ?_ hno
    by_cases hjk : j = k
    ·subst hjk; exact hjun
    ·rw [getD_set_ne true hjk] at hun; exact hun
   refine wpOp_mono (fun a' w' h3 => ?_) h2
   obtain ⟨hy', hdone, hrest⟩ := h3
   have hS' : S w' := hdone.resolve_left (not_doneK hku2)
   refine ⟨.inr hS', ih (listed.setIfInBounds j true) a' w' hfree' (ready_mono hr (Ne.symm hji)) hku1 hne hy' hS' ?_⟩
   rw [Array.setIfInBounds_comm _ _ hji]
   exact hrest
theorem anyK_take {i k : Nat} {oi : Oper} {v : Value} {fuel : Nat} {listed : Array Bool} {a : Act} {w : World} (hi : ops[i]? = some oi)
  (hs : Region.noSelect ops = true) (hf : Region.free md ops listed i = true) (hr : (Region.ready md ops listed).contains i = true)
  (hk : (waits md ops k i && listed[k]? == some false && k != i) = true)
  (hQ : ∀ c a w, Q (.panic c) (a.put oi.dst v) w → Q (.panic c) a w) (hy : YieldsIf P ops S oi v a) (hS : S w)
  (h : anyK P md ops Q S k fuel (listed.setIfInBounds i true) (a.put oi.dst v) w) : anyK P md ops Q S k (fuel + 1) listed a w := by
 simp only [Bool.and_eq_true, bne_iff_ne, beq_iff_eq] at hk
 obtain ⟨⟨h1, h2⟩, h3⟩ := hk
 unfold waits at h1
 cases hok : ops[k]? with
 | none => rw [hok] at h1; cases h1
 | some ok =>
  rw [hok] at h1
  obtain ⟨e, he, hb⟩ := Array.any_eq_true'.1 h1
  simp only [Bool.and_eq_true, beq_iff_eq] at hb
  exact anyK_first hi hok ⟨e, he, hb.1, hb.2⟩ (Region.noSelect_spec hs) hQ fuel listed a w (Region.free_spec hi hf) (by simpa using hr) h2 h3 hy hS h
theorem anyK_step {i k : Nat} {o : Oper} {fuel : Nat} {listed : Array Bool} {a : Act} {w : World} (hr : Region.ready md ops listed = [i]) (ho : ops[i]? = some o)
  (h : ∀ K' : Act → World → Prop, (∀ a w, ((listed.setIfInBounds i true).getD k false = true ∨ S w) ∧ (((listed.setIfInBounds i true).getD k false = true ∨ S w) → anyK P md ops Q S k fuel (listed.setIfInBounds i true) a w) → K' a w) →
   if Region.wanted o (yielded ops a.tmps) = true then Oper.wp P o a w K' Q else K' (a.put o.dst undef) w) : anyK P md ops Q S k (fuel + 1) listed a w := by
 refine ⟨fun h0 => (by rw [hr] at h0; cases h0), fun j hj => ?_⟩
 rw [hr] at hj
 obtain rfl : j = i := by simpa using hj
 have h1 := h _ (fun a w h => (⟨h.1, h.2 h.1⟩ : ((listed.setIfInBounds j true).getD k false = true ∨ S w) ∧ anyK P md ops Q S k fuel (listed.setIfInBounds j true) a w))
 unfold wpOp
 rw [ho]
 simp only
 split
 ·rename_i hw; rw [if_pos hw] at h1; exact .inl h1
 ·rename_i hw; rw [if_neg hw] at h1; exact h1
/-! A condition on the world that holds till one of the operations ks has come up. -/
def upTo (m : Nat) (l : Array Bool) : Bool := (List.range (m + 1)).all fun j => l.getD j false
theorem upTo_at {m k : Nat} {l : Array Bool} (h : upTo m l = true) (hk : k ≤ m) : l.getD k false = true := List.all_eq_true.1 h k (List.mem_range.2 (by omega))
theorem upTo_mono {l : Array Bool} {m i : Nat} (h : upTo m l = true) : upTo m (l.setIfInBounds i true) = true := List.all_eq_true.2 fun j hj => getD_set_mono (List.all_eq_true.1 h j hj)
def anyU (P : Program) (md : Region.Mode) (ops : Array Oper) (Q : Exit → Act → World → Prop) (S : World → Prop) (m : Nat) : Nat → Array Bool → Act → World → Prop
 | 0, listed, a, w => Region.ready md ops listed = [] ∧ Q .normal a w
 | fuel + 1, listed, a, w =>
  (Region.ready md ops listed = [] → Q .normal a w) ∧
  ∀ i ∈ Region.ready md ops listed, wpOp P ops Q i (fun a' w' => (upTo m (listed.setIfInBounds i true) = true ∨ S w') ∧ anyU P md ops Q S m fuel (listed.setIfInBounds i true) a' w') a w
theorem any_of_U {m : Nat} : ∀ (fuel : Nat) (listed : Array Bool) (a : Act) (w : World), anyU P md ops Q S m fuel listed a w → wpAny P md ops Q fuel listed a w
 | 0, _, _, _, h => h
 | fuel + 1, _, _, _, h => ⟨h.1, fun i hi => wpOp_mono (fun a' w' h' => any_of_U fuel _ a' w' h'.2) (h.2 i hi)⟩
theorem anyU_of_T {m : Nat} : ∀ (fuel : Nat) (listed : Array Bool) (a : Act) (w : World), upTo m listed = true → anyT P md ops Q (fun _ => True) fuel listed a w → anyU P md ops Q S m fuel listed a w
 | 0, _, _, _, _, h => h
 | fuel + 1, _, _, _, hk, h => ⟨h.1, fun i hi => wpOp_mono (fun a' w' h' => ⟨.inl (upTo_mono hk), anyU_of_T fuel _ a' w' (upTo_mono hk) h'.2⟩) (h.2 i hi)⟩
theorem not_doneU {l : Array Bool} {k m : Nat} (h : l[k]? = some false) (hk : k ≤ m) : ¬ upTo m l = true := fun hu => not_doneK h (upTo_at hu hk)
theorem anyU_first {i k m : Nat} (hkm : k ≤ m) {oi ok : Oper} {v : Value} (hi : ops[i]? = some oi) (hk : ops[k]? = some ok) (hki : ∃ e ∈ ok.after, Region.binds md e = true ∧ e.on = i)
  (hsel : ∀ (j : Nat) (o : Oper) cs b, ops[j]? = some o → o.op ≠ .select cs b) (hQ : ∀ c a w, Q (.panic c) (a.put oi.dst v) w → Q (.panic c) a w) :
  ∀ (fuel : Nat) (listed : Array Bool) (a : Act) (w : World),
   (∀ j oj, ops[j]? = some oj → j ≠ i → listed.getD j true = false → (∀ e ∈ oj.after, Region.binds md e = true → e.on ≠ i) → oi.apart ops oj = true) →
   i ∈ Region.ready md ops listed → listed[k]? = some false → k ≠ i → YieldsIf P ops S oi v a → S w →
   anyU P md ops Q S m fuel (listed.setIfInBounds i true) (a.put oi.dst v) w → anyU P md ops Q S m (fuel + 1) listed a w := by
 intro fuel
 induction fuel with
 | zero =>
  intro listed a w _ hr hku hne hy hS H
  refine ⟨fun h => (by rw [h] at hr; cases hr), fun j hj => ?_⟩
  by_cases hji : j = i
  ·subst hji; exact hy.wpOp hi hS ⟨.inr hS, H⟩
  ·have := ready_mono hj hji
   rw [H.1] at this
   cases this
 | succ fuel ih =>
  intro listed a w hfree hr hku hne hy hS H
  refine ⟨fun h => (by rw [h] at hr; cases hr), fun j hj => ?_⟩
  by_cases hji : j = i
  ·subst hji; exact hy.wpOp hi hS ⟨.inr hS, H⟩
  ·have h1 := H.2 j (ready_mono hj hji)
   obtain ⟨hjun, oj, hoj, hall⟩ := mem_ready.1 hj
   have hnot : ∀ e ∈ oj.after, Region.binds md e = true → e.on ≠ i := fun e he hb heq => by
    have h1 := hall e he hb
    have h0 := (mem_ready.1 hr).1
    rw [heq] at h1
    rcases Nat.lt_or_ge i listed.size with h' | h'
    ·simp [h'] at h0 h1; rw [h0] at h1; cases h1
    ·simp [Array.getElem?_eq_none h'] at h1
   have hjk : j ≠ k := by
    rintro rfl
    obtain ⟨e, he, hb, hon⟩ := hki
    rw [hk] at hoj; cases hoj
    exact hnot e he hb hon
   have hku1 : (listed.setIfInBounds j true)[k]? = some false := by rw [Array.getElem?_setIfInBounds_ne hjk]; exact hku
   have hku2 : ((listed.setIfInBounds i true).setIfInBounds j true)[k]? = some false := by
    rw [Array.getElem?_setIfInBounds_ne hjk, Array.getElem?_setIfInBounds_ne (Ne.symm hne)]; exact hku
   have h2 := wpOp_putIf hoj (hfree j oj hoj hji hjun hnot) (fun cs b => hsel i oi cs b hi) (fun cs b => hsel j oj cs b hoj) hQ hy h1
   have hfree' : ∀ k ok, ops[k]? = some ok → k ≠ i → (listed.setIfInBounds j true).getD k true = false →
     (∀ e ∈ ok.after, Region.binds md e = true → e.on ≠ i) → oi.apart ops ok = true := fun k ok hk hki hun hno => by
    refine hfree k ok hk hki ?_ hno
    by_cases hjk : j = k
    ·subst hjk; exact hjun
    ·rw [getD_set_ne true hjk] at hun; exact hun
   refine wpOp_mono (fun a' w' h3 => ?_) h2
   obtain ⟨hy', hdone, hrest⟩ := h3
   have hS' : S w' := hdone.resolve_left (not_doneU hku2 hkm)
   refine ⟨.inr hS', ih (listed.setIfInBounds j true) a' w' hfree' (ready_mono hr (Ne.symm hji)) hku1 hne hy' hS' ?_⟩
   rw [Array.setIfInBounds_comm _ _ hji]
   exact hrest
theorem anyU_take {i m : Nat} (k : Nat) {oi : Oper} {v : Value} {fuel : Nat} {listed : Array Bool} {a : Act} {w : World} (hi : ops[i]? = some oi)
  (hs : Region.noSelect ops = true) (hf : Region.free md ops listed i = true) (hr : (Region.ready md ops listed).contains i = true)
  (hk : (waits md ops k i && listed[k]? == some false && k != i && decide (k ≤ m)) = true)
  (hQ : ∀ c a w, Q (.panic c) (a.put oi.dst v) w → Q (.panic c) a w) (hy : YieldsIf P ops S oi v a) (hS : S w)
  (h : anyU P md ops Q S m fuel (listed.setIfInBounds i true) (a.put oi.dst v) w) : anyU P md ops Q S m (fuel + 1) listed a w := by
 simp only [Bool.and_eq_true, bne_iff_ne, beq_iff_eq, decide_eq_true_eq] at hk
 obtain ⟨⟨⟨h1, h2⟩, h3⟩, h4⟩ := hk
 unfold waits at h1
 cases hok : ops[k]? with
 | none => rw [hok] at h1; cases h1
 | some ok =>
  rw [hok] at h1
  obtain ⟨e, he, hb⟩ := Array.any_eq_true'.1 h1
  simp only [Bool.and_eq_true, beq_iff_eq] at hb
  exact anyU_first h4 hi hok ⟨e, he, hb.1, hb.2⟩ (Region.noSelect_spec hs) hQ fuel listed a w (Region.free_spec hi hf) (by simpa using hr) h2 h3 hy hS h
theorem anyU_step {i m : Nat} {o : Oper} {fuel : Nat} {listed : Array Bool} {a : Act} {w : World} (hr : Region.ready md ops listed = [i]) (ho : ops[i]? = some o)
  (h : ∀ K' : Act → World → Prop, (∀ a w, (upTo m (listed.setIfInBounds i true) = true ∨ S w) ∧ ((upTo m (listed.setIfInBounds i true) = true ∨ S w) → anyU P md ops Q S m fuel (listed.setIfInBounds i true) a w) → K' a w) →
   if Region.wanted o (yielded ops a.tmps) = true then Oper.wp P o a w K' Q else K' (a.put o.dst undef) w) : anyU P md ops Q S m (fuel + 1) listed a w := by
 refine ⟨fun h0 => (by rw [hr] at h0; cases h0), fun j hj => ?_⟩
 rw [hr] at hj
 obtain rfl : j = i := by simpa using hj
 have h1 := h _ (fun a w h => (⟨h.1, h.2 h.1⟩ : (upTo m (listed.setIfInBounds j true) = true ∨ S w) ∧ anyU P md ops Q S m fuel (listed.setIfInBounds j true) a w))
 unfold wpOp
 rw [ho]
 simp only
 split
 ·rename_i hw; rw [if_pos hw] at h1; exact .inl h1
 ·rename_i hw; rw [if_neg hw] at h1; exact h1
theorem anyT_free {i : Nat} {oi : Oper} {v : Value} (hi : ops[i]? = some oi)
  (hsel : ∀ (j : Nat) (o : Oper) cs b, ops[j]? = some o → o.op ≠ .select cs b) (hQ : ∀ c a w, Q (.panic c) (a.put oi.dst v) w → Q (.panic c) a w) :
  ∀ (fuel : Nat) (listed : Array Bool) (a : Act) (w : World),
   (∀ j oj, ops[j]? = some oj → j ≠ i → listed.getD j true = false → (∀ e ∈ oj.after, Region.binds md e = true → e.on ≠ i) → oi.apart ops oj = true) →
   i ∈ Region.ready md ops listed → YieldsIf P ops (fun _ => True) oi v a →
   anyT P md ops Q (fun _ => True) fuel (listed.setIfInBounds i true) (a.put oi.dst v) w → anyT P md ops Q (fun _ => True) (fuel + 1) listed a w := by
 intro fuel
 induction fuel with
 | zero =>
  intro listed a w _ hr hy H
  refine ⟨fun h => (by rw [h] at hr; cases hr), fun j hj => ?_⟩
  by_cases hji : j = i
  ·subst hji; exact hy.wpOp hi trivial ⟨.inr trivial, H⟩
  ·have := ready_mono hj hji
   rw [H.1] at this
   cases this
 | succ fuel ih =>
  intro listed a w hfree hr hy H
  refine ⟨fun h => (by rw [h] at hr; cases hr), fun j hj => ?_⟩
  by_cases hji : j = i
  ·subst hji; exact hy.wpOp hi trivial ⟨.inr trivial, H⟩
  ·have h1 := H.2 j (ready_mono hj hji)
   obtain ⟨hjun, oj, hoj, hall⟩ := mem_ready.1 hj
   have hnot : ∀ e ∈ oj.after, Region.binds md e = true → e.on ≠ i := fun e he hb heq => by
    have h1 := hall e he hb
    have h0 := (mem_ready.1 hr).1
    rw [heq] at h1
    rcases Nat.lt_or_ge i listed.size with h' | h'
    ·simp [h'] at h0 h1; rw [h0] at h1; cases h1
    ·simp [Array.getElem?_eq_none h'] at h1
   have h2 := wpOp_putIf hoj (hfree j oj hoj hji hjun hnot) (fun cs b => hsel i oi cs b hi) (fun cs b => hsel j oj cs b hoj) hQ hy h1
   have hfree' : ∀ k ok, ops[k]? = some ok → k ≠ i → (listed.setIfInBounds j true).getD k true = false →
     (∀ e ∈ ok.after, Region.binds md e = true → e.on ≠ i) → oi.apart ops ok = true := fun k ok hk hki hun hno => by
    refine hfree k ok hk hki ?_ hno
    by_cases hjk : j = k
    ·subst hjk; exact hjun
    ·rw [getD_set_ne true hjk] at hun; exact hun
   refine wpOp_mono (fun a' w' h3 => ?_) h2
   obtain ⟨hy', hdone, hrest⟩ := h3
   refine ⟨.inr trivial, ih (listed.setIfInBounds j true) a' w' hfree' (ready_mono hr (Ne.symm hji)) hy' ?_⟩
   rw [Array.setIfInBounds_comm _ _ hji]
   exact hrest
theorem anyT_takeF {i : Nat} {oi : Oper} {v : Value} {fuel : Nat} {listed : Array Bool} {a : Act} {w : World} (hi : ops[i]? = some oi)
  (hs : Region.noSelect ops = true) (hf : Region.free md ops listed i = true) (hr : (Region.ready md ops listed).contains i = true)
  (hQ : ∀ c a w, Q (.panic c) (a.put oi.dst v) w → Q (.panic c) a w) (hy : YieldsIf P ops (fun _ => True) oi v a)
  (h : anyT P md ops Q (fun _ => True) fuel (listed.setIfInBounds i true) (a.put oi.dst v) w) : anyT P md ops Q (fun _ => True) (fuel + 1) listed a w :=
 anyT_free hi (Region.noSelect_spec hs) hQ fuel listed a w (Region.free_spec hi hf) (by simpa using hr) hy h
end held
section regions
variable {P : Program} {n : Nat}
theorem round_regionK {id l : Nat} {ops : Array Oper} {Q : Exit → Act → World → Prop} {a : Act} {w : World} (k : Nat) (S : World → Prop) (hm : P.follows .mixedOrders = true) (hnd : noDefer ops = true) (hQ : ∀ a w, ¬ Q .outgrown a w)
  (hS : S w.drew) (h : S w.drew → anyK P .any ops Q S k ops.size (Array.replicate ops.size false) a w.drew) : (Code.region id ops true).wpIn (Fence.wide.inRound l) n P Q a w :=
 wpIn_region_any hm (round_any (noDefer_spec hnd) hQ _ _ _ _ (any_of_K _ _ _ _ (h hS)))
theorem plain_regionU {id : Nat} {ops : Array Oper} {Q : Exit → Act → World → Prop} {a : Act} {w : World} (m : Nat) (S : World → Prop) (hm : P.follows .mixedOrders = true)
  (hS : S w.drew) (h : S w.drew → anyU P .any ops Q S m ops.size (Array.replicate ops.size false) a w.drew) : (Code.region id ops true).wp P Q a w :=
 wp_region_any hm (any_of_U _ _ _ _ (h hS))
theorem round_regionU {id l : Nat} {ops : Array Oper} {Q : Exit → Act → World → Prop} {a : Act} {w : World} (m : Nat) (S : World → Prop) (hm : P.follows .mixedOrders = true) (hnd : noDefer ops = true) (hQ : ∀ a w, ¬ Q .outgrown a w)
  (hS : S w.drew) (h : S w.drew → anyU P .any ops Q S m ops.size (Array.replicate ops.size false) a w.drew) : (Code.region id ops true).wpIn (Fence.wide.inRound l) n P Q a w :=
 wpIn_region_any hm (round_any (noDefer_spec hnd) hQ _ _ _ _ (any_of_U _ _ _ _ (h hS)))
end regions
theorem flat_len {α : Type} (enc : α → List Value) (sz : Nat) (henc : ∀ x, (enc x).length = sz) : ∀ l : List α, (l.flatMap enc).length = l.length * sz
 | [] => by simp
 | x :: l => by rw [List.flatMap_cons, List.length_append, henc, flat_len enc sz henc l, List.length_cons, Nat.add_mul]; omega
theorem flat_at {α : Type} (enc : α → List Value) (sz : Nat) (henc : ∀ x, (enc x).length = sz) : ∀ (l : List α) (k : Nat) (x : α), l[k]? = some x → ∀ (j : Nat) v, (enc x)[j]? = some v → (l.flatMap enc)[k * sz + j]? = some v
 | [], k, x, h, _, _, _ => by simp at h
 | y :: l, 0, x, h, j, v, hv => by
  obtain rfl : y = x := by simpa using h
  rw [List.flatMap_cons, List.getElem?_append_left (by rw [henc, ← henc y]; have := (List.getElem?_eq_some_iff.1 hv).1; omega)]
  simpa using hv
 | y :: l, k + 1, x, h, j, v, hv => by
  have h1 : l[k]? = some x := by simpa using h
  rw [List.flatMap_cons, List.getElem?_append_right (by rw [henc, Nat.add_mul]; omega), henc, show (k + 1) * sz + j - sz = k * sz + j by rw [Nat.add_mul]; omega]
  exact flat_at enc sz henc l k x h1 j v hv
theorem flat_take {α : Type} (enc : α → List Value) (sz : Nat) (henc : ∀ x, (enc x).length = sz) : ∀ (l : List α) (k : Nat), (l.flatMap enc).take (k * sz) = (l.take k).flatMap enc
 | [], k => by simp
 | x :: l, 0 => by simp
 | x :: l, k + 1 => by
  rw [List.flatMap_cons, List.take_append, henc, List.take_of_length_le (by rw [henc, Nat.add_mul]; omega), show (k + 1) * sz - sz = k * sz by rw [Nat.add_mul]; omega, flat_take enc sz henc l k, List.take_succ_cons, List.flatMap_cons]
theorem flat_drop {α : Type} (enc : α → List Value) (sz : Nat) (henc : ∀ x, (enc x).length = sz) : ∀ (l : List α) (k : Nat), (l.flatMap enc).drop (k * sz) = (l.drop k).flatMap enc
 | [], k => by simp
 | x :: l, 0 => by simp
 | x :: l, k + 1 => by
  rw [List.flatMap_cons, List.drop_append, henc, List.drop_eq_nil_of_le (by rw [henc, Nat.add_mul]; omega), show (k + 1) * sz - sz = k * sz by rw [Nat.add_mul]; omega, flat_drop enc sz henc l k, List.drop_succ_cons, List.nil_append]
def Recs {α : Type} (enc : α → List Value) (sz : Nat) (w : World) (A : Option Addr) (n c : Nat) (l : List α) : Prop := Cells w A n c sz (l.flatMap enc) ∧ l.length = n
section recs
variable {α : Type} {enc : α → List Value} {sz : Nat} {w w' : World} {A : Option Addr} {n c : Nat} {l : List α}
theorem Recs.at_ (h : Recs enc sz w A n c l) (henc : ∀ x, (enc x).length = sz) (hsz : 0 < sz) {k : Nat} {x : α} (hx : l[k]? = some x) :
  ∃ b off, A = some ⟨b, off, none⟩ ∧ b < w.heap.size ∧ ∀ (j : Nat) v, (enc x)[j]? = some v → w.cell? ⟨b, off + (k * sz + j), none⟩ = some v := by
 have hk := (List.getElem?_eq_some_iff.1 hx).1
 have hn := h.2
 obtain ⟨b, off, rfl, hlt, hc⟩ := h.1.2.2.2.2 (by omega)
 exact ⟨b, off, rfl, hlt, fun j v hv => hc _ v (flat_at enc sz henc l k x hx j v hv)⟩
theorem Recs.below (h : Recs enc sz w A n c l) {B : Nat} (hb : Below B w w') (hB : w.heap.size ≤ B) : Recs enc sz w' A n c l := ⟨h.1.below hb hB, h.2⟩
theorem Recs.of_own {base : Nat} {e : TypeId} (h : w.ownsRow base e sz (.slice A n c) n (l.flatMap enc)) (henc : ∀ x, (enc x).length = sz) (hsz : 0 < sz) : Recs enc sz w A n c l := by
 refine ⟨Cells.of_own h hsz, ?_⟩
 have h1 := h.1
 rw [flat_len enc sz henc] at h1
 exact Nat.eq_of_mul_eq_mul_right hsz h1
theorem Recs.drop (h : Recs enc sz w A n c l) (henc : ∀ x, (enc x).length = sz) {k : Nat} (hk : k ≤ n) :
  Recs enc sz w (if c = k then A else A.map (·.add (k * sz))) (n - k) (c - k) (l.drop k) := by
 have := h.1.drop hk
 rw [flat_drop enc sz henc] at this
 exact ⟨this, by rw [List.length_drop, h.2]⟩
theorem Recs.take (h : Recs enc sz w A n c l) (henc : ∀ x, (enc x).length = sz) {k : Nat} (hk : k ≤ n) : Recs enc sz w A k c (l.take k) := by
 have := h.1.take hk
 rw [flat_take enc sz henc] at this
 exact ⟨this, by rw [List.length_take, h.2]; omega⟩
end recs
theorem cell_new_at {w : World} {cs : Array Value} {t : TypeId} {j : Nat} {v : Value} (h : cs[j]? = some v) : (w.alloc (.cells cs t)).cell? ⟨w.heap.size, j, none⟩ = some v := by
 rw [cell_of_row _ _ _ cs t (0, 0) (heap_alloc_new w _)]; exact h
theorem cell_at_heap {w : World} {g j : Nat} {cs : Array Value} {t : TypeId} {fr : Nat × Nat} {v : Value} (h : w.heap[g]? = some (.cells cs t fr)) (hv : cs[j]? = some v) : w.cell? ⟨g, j, none⟩ = some v := by
 rw [cell_of_row _ _ _ cs t fr h]; exact hv
end Go.Proofs.YtaglfmlgbcmakaaGreatDoor

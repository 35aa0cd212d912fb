/-
  ablautref06.Table.
  ablautref06.Table, at nodes with others below them.
  ablautref06: Table at any node; both, Begins, Ends.
-/
import Derived.Test.YtcpcojgmmpnkoaaGreatDoorG24
set_option linter.all false
set_option maxRecDepth 100000
set_option maxHeartbeats 4000000
namespace Go.Proofs.YtcpcojgmmpnkoaaGreatDoor
open Go.RowKit Go.Shelf
def Tab (T : List Nat) (n : Nat) (r : List Nat) : Prop := T.length = n + 1 ∧ AllSmall T ∧ ∀ a b, Bt T a b ↔ Bt r a b
def RetTabR (w : World) (n : Nat) (r : List Nat) (e : Ending) (w' : World) : Prop := ∃ A c T, e = .returned (.slice A (n + 1) c) ∧ IsTab w' A (n + 1) c T ∧ Tab T n r ∧ Below w.heap.size w w'
def ptab (f : Nat → Nat) (m j : Nat) : List Nat := (List.range m).map fun k => if k < j then f k else 0
theorem ptab_zero (f : Nat → Nat) (m : Nat) : ptab f m 0 = List.replicate m 0 := by
 apply List.ext_getElem?
 intro i
 unfold ptab
 rw [List.getElem?_map, List.getElem?_replicate]
 by_cases h : i < m
 ·rw [List.getElem?_range h, if_pos h, Option.map_some, if_neg (by omega)]
 ·rw [List.getElem?_eq_none (by simpa using h), if_neg h]; rfl
theorem ptab_step (f : Nat → Nat) (m j : Nat) : (ptab f m j).set j (f j) = ptab f m (j + 1) := by
 unfold ptab
 refine range_set _ _ _ _ _ (by rw [if_pos (by omega)]) fun k hk => ?_
 by_cases h : k < j
 ·rw [if_pos h, if_pos (by omega)]
 ·rw [if_neg h, if_neg (by omega)]
theorem ptab_skip {f : Nat → Nat} {m j : Nat} (h : f j = 0) : ptab f m (j + 1) = ptab f m j := by
 unfold ptab
 refine List.map_congr_left fun k _ => ?_
 by_cases h1 : k = j
 ·subst h1; rw [if_pos (by omega), if_neg (by omega), h]
 ·by_cases h2 : k < j
  ·rw [if_pos h2, if_pos (by omega)]
  ·rw [if_neg h2, if_neg (by omega)]
theorem ptab_all (f : Nat → Nat) (m : Nat) : ptab f m m = (List.range m).map f := List.map_congr_left fun k hk => by rw [if_pos (List.mem_range.1 hk)]
theorem ptab_at {f : Nat → Nat} {m j : Nat} (h : j < m) : (ptab f m j)[j]? = some 0 := by unfold ptab; rw [List.getElem?_map, List.getElem?_range h, Option.map_some, if_neg (by omega)]
theorem tab_of {f : Nat → Nat} {n : Nat} {r : List Nat} (hs : ∀ k, k ≤ n → Small (f k)) (h : ∀ a b, a ≤ n → ((f a).testBit b = true ↔ Bt r a b)) (hr : ∀ a b, Bt r a b → a ≤ n) : Tab ((List.range (n + 1)).map f) n r := by
 refine ⟨by simp, fun s hs' => ?_, fun a b => ?_⟩
 ·obtain ⟨k, hk, rfl⟩ := List.mem_map.1 hs'
  exact hs k (by have := List.mem_range.1 hk; omega)
 ·rw [range_bt]
  constructor
  ·rintro ⟨h1, h2⟩; exact (h a b (by omega)).1 h2
  ·intro h1
   have := hr a b h1
   exact ⟨by omega, (h a b this).2 h1⟩
theorem Tab.follow {T T' : List Nat} {n : Nat} {r r' : List Nat} (h : Tab T n r) (h' : Tab T' n r') : Tab (thenM T T') n (thenM r r') := by
 refine ⟨by rw [thenM_len]; exact h.1, thenM_small _ _ h'.2.1, fun a b => ?_⟩
 rw [thenM_bt, thenM_bt]
 exact ⟨fun ⟨m, h1, h2⟩ => ⟨m, (h.2.2 a m).1 h1, (h'.2.2 m b).1 h2⟩, fun ⟨m, h1, h2⟩ => ⟨m, (h.2.2 a m).2 h1, (h'.2.2 m b).2 h2⟩⟩
theorem Tab.join {T T' : List Nat} {n : Nat} {r r' : List Nat} (h : Tab T n r) (h' : Tab T' n r') (hl : r.length = r'.length) : Tab (orR T T') n (orR r r') := by
 refine ⟨by unfold orR; rw [List.length_zipWith, h.1, h'.1]; omega, orR_small _ _ h.2.1 h'.2.1, fun a b => ?_⟩
 rw [orR_bt (by rw [h.1, h'.1]), orR_bt hl, h.2.2, h'.2.2]
theorem idT_tab {n : Nat} (hn : n ≤ 32) : Tab (idT n) n (idR n) :=
 tab_of (fun k hk => pow_small' k (by omega)) (fun a b ha => by
  rw [Nat.testBit_two_pow, decide_eq_true_eq, idR_bt hn]
  exact ⟨fun h => ⟨h, ha⟩, fun h => h.1⟩) (fun a b h => ((idR_bt hn a b).1 h).2)
theorem rels_get (ws : List Snd) : ∀ (f : Fo) (j : Nat) (k : Nd) (ch : Fo), f.get j = some (k, ch) → (rels ws f)[j]? = some (relOf k ws (rels ws ch))
 | .nil, j, k, ch, h => by simp [Fo.get] at h
 | .node k0 ch0 nx, 0, k, ch, h => by
  obtain ⟨rfl, rfl⟩ : k0 = k ∧ ch0 = ch := by simpa [Fo.get] using h
  rfl
 | .node k0 ch0 nx, j + 1, k, ch, h => by simpa [rels] using rels_get ws nx j k ch (by simpa [Fo.get] using h)
theorem foldl_take {α β : Type} (f : α → β → α) (a : α) (l : List β) (k : Nat) (x : β) (h : l[k]? = some x) : (l.take (k + 1)).foldl f a = f ((l.take k).foldl f a) x := by
 rw [take_snoc' l k x h, List.foldl_append]; rfl
def TbOK (k : Nd) (ch : Fo) : Prop := ∀ (w : World) (A : Option Addr) (c : Nat) (Aw : Option Addr) (nw cw : Nat) (ws : List Snd), FSl w A ch.len c ch → IsWord w Aw nw cw ws → nw ≤ 32 → allowedM k ch.len = 0 → okF ch → NdU k → FoU ch →
 Calls Tryz.prog 233 #[patV k A ch.len c, .slice Aw nw cw] w (RetTabR w nw (relOf k ws (rels ws ch)))
theorem table0 (isp ism : Int) (neg : Bool) (lo hi : Int) (ch : Fo) : TbOK ⟨0, isp, ism, neg, lo, hi⟩ ch := by
 intro w A c Aw nw cw ws hs hw hn hal hok hk hu
 have hch : ch.len = 0 := by
  rcases Nat.eq_zero_or_pos ch.len with h | h
  ·exact h
  ·unfold allowedM at hal
   rw [if_pos (by simp), if_pos (by simp [h])] at hal
   exact absurd hal (by decide)
 have hwl := hw.len
 have hrel : relOf ⟨0, isp, ism, neg, lo, hi⟩ ws (rels ws ch) = idR nw := by
  have h1 : rels ws ch = [] := List.eq_nil_of_length_eq_zero (by rw [rels_len]; exact hch)
  rw [h1, ← hwl]; rfl
 rw [hrel]
 clear hs hal hok hk hu hrel hch hw
 obtain ⟨f, hf⟩ : ∃ f : Nat → Nat, f = fun k => 2 ^ k := ⟨_, rfl⟩
 have HTB : Hid (Tab ((List.range (nw + 1)).map f) nw (idR nw)) := by rw [hf]; exact idT_tab hn
 have HFF := hI hf; clear hf hwl
 have hmk : ∀ w : World, (Instr.makeSlice 245 (.int .i64 ((nw : Int) + 1)) (.int .i64 ((nw : Int) + 1))).run Tryz.prog w = .ok (.slice (some ⟨w.heap.size, 0, none⟩) (nw + 1) (nw + 1)) (w.alloc (.cells (madeCells #[.int .u64 0] (nw + 1)) 235)) :=
  fun w => run_make_row' (P := Tryz.prog) 245 235 (.int .u64 0) 8 Tryz.underlying245 u64_info rfl .i64 .i64 (nw + 1) (by omega) (by omega) w
 go_enter Tryz.func233, Tryz.ntmps233
 go_wp2
 clear hmk
 rw [made_tab]
 have kp : ((w.alloc (.cells #[.int .i64 0, .int .u32 isp, .int .u32 ism, .bool neg, .int .i64 lo, .int .i64 hi, .slice A ch.len c] 27)).alloc (.cells (tabC (List.replicate (nw + 1) 0)) 235)).heap[w.heap.size]? = some (.cells #[.int .i64 0, .int .u32 isp, .int .u32 ism, .bool neg, .int .i64 lo, .int .i64 hi, .slice A ch.len c] 27 (0, 0)) := hpt
 have kg : ((w.alloc (.cells #[.int .i64 0, .int .u32 isp, .int .u32 ism, .bool neg, .int .i64 lo, .int .i64 hi, .slice A ch.len c] 27)).alloc (.cells (tabC (List.replicate (nw + 1) 0)) 235)).heap[w.heap.size + 1]? = some (.cells (tabC (List.replicate (nw + 1) 0)) 235 (0, 0)) := hpt
 have kB : Below w.heap.size w ((w.alloc (.cells #[.int .i64 0, .int .u32 isp, .int .u32 ism, .bool neg, .int .i64 lo, .int .i64 hi, .slice A ch.len c] 27)).alloc (.cells (tabC (List.replicate (nw + 1) 0)) 235)) := bel
 generalize ((w.alloc (.cells #[.int .i64 0, .int .u32 isp, .int .u32 ism, .bool neg, .int .i64 lo, .int .i64 hi, .slice A ch.len c] 27)).alloc (.cells (tabC (List.replicate (nw + 1) 0)) 235)) = V0 at *
 go_loopw [7] (fun i wr => ∃ a : Nat, i = .int .i64 a ∧ a ≤ nw + 1 ∧ Hid (wr.heap[w.heap.size]? = some (.cells #[.int .i64 0, .int .u32 isp, .int .u32 ism, .bool neg, .int .i64 lo, .int .i64 hi, .slice A ch.len c] 27 (0, 0))) ∧ Hid (wr.heap[w.heap.size + 1]? = some (.cells (tabC (ptab f (nw + 1) a)) 235 (0, 0))) ∧ Below w.heap.size w wr) (fun i _ => nw + 1 - (intOf i).toNat)
 case atStart => exact ⟨0, rfl, Nat.zero_le _, kp, by rw [ptab_zero]; exact kg, kB⟩
 case round =>
  obtain ⟨a, rfl, ha, hp, hg, hB⟩ := hrel
  have hc0 := cell_at_heap (j := 0) (v := .int .i64 0) hp.out rfl
  by_cases hlt : a < nw + 1
  ·have h1 : (a : Int) < (nw : Int) + 1 := by omega
   have h2 : (a : Int) ≤ (nw : Int) := by omega
   have hcg := tabC_get hg.out (ptab_at hlt)
   have hfg := frozen_of_row wr (w.heap.size + 1) a _ _ hg.out
   have hsh := shl_one' a (by omega)
   have hsh2 := shl_one a (by omega)
   have HF : Hid (((f a : Nat) : Int) = 2 ^ a) := by show _ = _; rw [HFF.out]; simp
   go_wp2
   have t1 : (wr.setCell ⟨w.heap.size + 1, a, none⟩ (.int .u64 (2 ^ a))).heap[w.heap.size + 1]? = some (.cells (tabC (ptab f (nw + 1) (a + 1))) 235 (0, 0)) := by
    rw [← ptab_step, ← tabC_set, HF.out]
    exact heap_setCell_same hg.out
   have t2 : (wr.setCell ⟨w.heap.size + 1, a, none⟩ (.int .u64 (2 ^ a))).heap[w.heap.size]? = some (.cells #[.int .i64 0, .int .u32 isp, .int .u32 ism, .bool neg, .int .i64 lo, .int .i64 hi, .slice A ch.len c] 27 (0, 0)) := (Below.heap_setCell wr ⟨w.heap.size + 1, a, none⟩ (.int .u64 (2 ^ a)) w.heap.size (by simp)).trans hp.out
   have tB : Below w.heap.size w (wr.setCell ⟨w.heap.size + 1, a, none⟩ (.int .u64 (2 ^ a))) := hB.setCell (p := ⟨w.heap.size + 1, a, none⟩) (by simp) _
   go_roundw
   case rel => exact ⟨a + 1, by go_num, by omega, t2, t1, tB⟩
   case measure => simp [intOf] <;> omega
  ·obtain rfl : a = nw + 1 := by omega
   have h2 : ¬ ((nw : Int) + 1 ≤ (nw : Int)) := by omega
   have hg' := hg.out
   rw [ptab_all] at hg'
   clear hc0
   have hp0 := cell_at_heap (j := 0) (v := .int .i64 0) hp.out rfl
   go_wp2
   go_ret
   exact ⟨_, _, _, rfl, tab_row hg' (by simp) (by unfold maxLen; omega), HTB.out, hB⟩
theorem table2 (isp ism : Int) (neg : Bool) (lo hi : Int) (ch : Fo) : TbOK ⟨2, isp, ism, neg, lo, hi⟩ ch := by
 intro w A c Aw nw cw ws hs hw hn hal hok hk hu
 have hwl := hw.len
 have hrel : relOf ⟨2, isp, ism, neg, lo, hi⟩ ws (rels ws ch) = edgeR 0 := rfl
 rw [hrel]
 clear hs hal hok hk hu hrel hw hwl
 obtain ⟨f, hf⟩ : ∃ f : Nat → Nat, f = fun k => if k = 0 then 1 else 0 := ⟨_, rfl⟩
 have HTB : Hid (Tab ((List.range (nw + 1)).map f) nw (edgeR 0)) := by
  rw [hf]
  refine tab_of (fun k _ => ?_) (fun a b ha => ?_) (fun a b h => by have := (edgeR_bt (by omega) a b).1 h; omega)
  ·split
   ·unfold Small; omega
   ·exact small_zero
  ·rw [edgeR_bt (by omega)]
   by_cases h : a = 0
   ·rw [if_pos h, show (1 : Nat) = 2 ^ 0 from rfl, Nat.testBit_two_pow, decide_eq_true_eq]
    exact ⟨fun e => ⟨h, e.symm⟩, fun e => e.2.symm⟩
   ·rw [if_neg h]; simp [h]
 have HFF := hI hf; clear hf
 have hmk : ∀ w : World, (Instr.makeSlice 245 (.int .i64 ((nw : Int) + 1)) (.int .i64 ((nw : Int) + 1))).run Tryz.prog w = .ok (.slice (some ⟨w.heap.size, 0, none⟩) (nw + 1) (nw + 1)) (w.alloc (.cells (madeCells #[.int .u64 0] (nw + 1)) 235)) :=
  fun w => run_make_row' (P := Tryz.prog) 245 235 (.int .u64 0) 8 Tryz.underlying245 u64_info rfl .i64 .i64 (nw + 1) (by omega) (by omega) w
 go_enter Tryz.func233, Tryz.ntmps233
 go_wp2
 clear hmk
 rw [made_tab]
 have kp : ((w.alloc (.cells #[.int .i64 2, .int .u32 isp, .int .u32 ism, .bool neg, .int .i64 lo, .int .i64 hi, .slice A ch.len c] 27)).alloc (.cells (tabC (List.replicate (nw + 1) 0)) 235)).heap[w.heap.size]? = some (.cells #[.int .i64 2, .int .u32 isp, .int .u32 ism, .bool neg, .int .i64 lo, .int .i64 hi, .slice A ch.len c] 27 (0, 0)) := hpt
 have kg : ((w.alloc (.cells #[.int .i64 2, .int .u32 isp, .int .u32 ism, .bool neg, .int .i64 lo, .int .i64 hi, .slice A ch.len c] 27)).alloc (.cells (tabC (List.replicate (nw + 1) 0)) 235)).heap[w.heap.size + 1]? = some (.cells (tabC (List.replicate (nw + 1) 0)) 235 (0, 0)) := hpt
 have kB : Below w.heap.size w ((w.alloc (.cells #[.int .i64 2, .int .u32 isp, .int .u32 ism, .bool neg, .int .i64 lo, .int .i64 hi, .slice A ch.len c] 27)).alloc (.cells (tabC (List.replicate (nw + 1) 0)) 235)) := bel
 generalize ((w.alloc (.cells #[.int .i64 2, .int .u32 isp, .int .u32 ism, .bool neg, .int .i64 lo, .int .i64 hi, .slice A ch.len c] 27)).alloc (.cells (tabC (List.replicate (nw + 1) 0)) 235)) = V0 at *
 go_loopw [7] (fun i wr => ∃ a : Nat, i = .int .i64 a ∧ a ≤ nw + 1 ∧ Hid (wr.heap[w.heap.size]? = some (.cells #[.int .i64 2, .int .u32 isp, .int .u32 ism, .bool neg, .int .i64 lo, .int .i64 hi, .slice A ch.len c] 27 (0, 0))) ∧ Hid (wr.heap[w.heap.size + 1]? = some (.cells (tabC (ptab f (nw + 1) a)) 235 (0, 0))) ∧ Below w.heap.size w wr) (fun i _ => nw + 1 - (intOf i).toNat)
 case atStart => exact ⟨0, rfl, Nat.zero_le _, kp, by rw [ptab_zero]; exact kg, kB⟩
 case round =>
  obtain ⟨a, rfl, ha, hp, hg, hB⟩ := hrel
  have hc0 := cell_at_heap (j := 0) (v := .int .i64 2) hp.out rfl
  by_cases hlt : a < nw + 1
  ·have h1 : (a : Int) < (nw : Int) + 1 := by omega
   have h2 : (a : Int) ≤ (nw : Int) := by omega
   have hcg := tabC_get hg.out (ptab_at hlt)
   have hfg := frozen_of_row wr (w.heap.size + 1) a _ _ hg.out
   by_cases ha0 : a = 0
   ·have h3 : ((a : Int) == 0) = true := by simp; omega
    have HF : Hid (((f a : Nat) : Int) = 1) := by show _ = _; rw [HFF.out]; simp [ha0]
    clear ha0
    go_wp2
    have t1 : (wr.setCell ⟨w.heap.size + 1, a, none⟩ (.int .u64 1)).heap[w.heap.size + 1]? = some (.cells (tabC (ptab f (nw + 1) (a + 1))) 235 (0, 0)) := by
     rw [← ptab_step, ← tabC_set, HF.out]
     exact heap_setCell_same hg.out
    have t2 : (wr.setCell ⟨w.heap.size + 1, a, none⟩ (.int .u64 1)).heap[w.heap.size]? = some (.cells #[.int .i64 2, .int .u32 isp, .int .u32 ism, .bool neg, .int .i64 lo, .int .i64 hi, .slice A ch.len c] 27 (0, 0)) := (Below.heap_setCell wr ⟨w.heap.size + 1, a, none⟩ (.int .u64 1) w.heap.size (by simp)).trans hp.out
    have tB : Below w.heap.size w (wr.setCell ⟨w.heap.size + 1, a, none⟩ (.int .u64 1)) := hB.setCell (p := ⟨w.heap.size + 1, a, none⟩) (by simp) _
    go_roundw
    case rel => exact ⟨a + 1, by go_num, by omega, t2, t1, tB⟩
    case measure => simp [intOf] <;> omega
   ·have h3 : ((a : Int) == 0) = false := by simp; omega
    have HF0 : Hid (f a = 0) := by show _ = _; rw [HFF.out]; simp [ha0]
    clear ha0 hcg hfg
    go_wp2
    have hg2 := hg.out
    rw [← ptab_skip (f := f) (m := nw + 1) (j := a) HF0.out] at hg2
    go_roundw
    case rel => exact ⟨a + 1, by go_num, by omega, hp, hg2, hB⟩
    case measure => simp [intOf] <;> omega
  ·obtain rfl : a = nw + 1 := by omega
   have h2 : ¬ ((nw : Int) + 1 ≤ (nw : Int)) := by omega
   have hg' := hg.out
   rw [ptab_all] at hg'
   clear hc0
   have hp0 := cell_at_heap (j := 0) (v := .int .i64 2) hp.out rfl
   go_wp2
   go_ret
   exact ⟨_, _, _, rfl, tab_row hg' (by simp) (by unfold maxLen; omega), HTB.out, hB⟩
theorem table6 (isp ism : Int) (neg : Bool) (lo hi : Int) (ch : Fo) : TbOK ⟨6, isp, ism, neg, lo, hi⟩ ch := by
 intro w A c Aw nw cw ws hs hw hn hal hok hk hu
 have hwl := hw.len
 have hrel : relOf ⟨6, isp, ism, neg, lo, hi⟩ ws (rels ws ch) = edgeR nw := by rw [← hwl]; rfl
 rw [hrel]
 clear hs hal hok hk hu hrel hw hwl
 obtain ⟨f, hf⟩ : ∃ f : Nat → Nat, f = fun k => if k = nw then 2 ^ k else 0 := ⟨_, rfl⟩
 have HTB : Hid (Tab ((List.range (nw + 1)).map f) nw (edgeR nw)) := by
  rw [hf]
  refine tab_of (fun k hk => ?_) (fun a b ha => ?_) (fun a b h => by have := (edgeR_bt hn a b).1 h; omega)
  ·split
   ·exact pow_small' k (by omega)
   ·exact small_zero
  ·rw [edgeR_bt hn]
   by_cases h : a = nw
   ·rw [if_pos h, Nat.testBit_two_pow, decide_eq_true_eq]
    exact ⟨fun e => ⟨h, by omega⟩, fun e => by omega⟩
   ·rw [if_neg h]; simp [h]
 have HFF := hI hf; clear hf
 have hmk : ∀ w : World, (Instr.makeSlice 245 (.int .i64 ((nw : Int) + 1)) (.int .i64 ((nw : Int) + 1))).run Tryz.prog w = .ok (.slice (some ⟨w.heap.size, 0, none⟩) (nw + 1) (nw + 1)) (w.alloc (.cells (madeCells #[.int .u64 0] (nw + 1)) 235)) :=
  fun w => run_make_row' (P := Tryz.prog) 245 235 (.int .u64 0) 8 Tryz.underlying245 u64_info rfl .i64 .i64 (nw + 1) (by omega) (by omega) w
 go_enter Tryz.func233, Tryz.ntmps233
 go_wp2
 clear hmk
 rw [made_tab]
 have kp : ((w.alloc (.cells #[.int .i64 6, .int .u32 isp, .int .u32 ism, .bool neg, .int .i64 lo, .int .i64 hi, .slice A ch.len c] 27)).alloc (.cells (tabC (List.replicate (nw + 1) 0)) 235)).heap[w.heap.size]? = some (.cells #[.int .i64 6, .int .u32 isp, .int .u32 ism, .bool neg, .int .i64 lo, .int .i64 hi, .slice A ch.len c] 27 (0, 0)) := hpt
 have kg : ((w.alloc (.cells #[.int .i64 6, .int .u32 isp, .int .u32 ism, .bool neg, .int .i64 lo, .int .i64 hi, .slice A ch.len c] 27)).alloc (.cells (tabC (List.replicate (nw + 1) 0)) 235)).heap[w.heap.size + 1]? = some (.cells (tabC (List.replicate (nw + 1) 0)) 235 (0, 0)) := hpt
 have kB : Below w.heap.size w ((w.alloc (.cells #[.int .i64 6, .int .u32 isp, .int .u32 ism, .bool neg, .int .i64 lo, .int .i64 hi, .slice A ch.len c] 27)).alloc (.cells (tabC (List.replicate (nw + 1) 0)) 235)) := bel
 generalize ((w.alloc (.cells #[.int .i64 6, .int .u32 isp, .int .u32 ism, .bool neg, .int .i64 lo, .int .i64 hi, .slice A ch.len c] 27)).alloc (.cells (tabC (List.replicate (nw + 1) 0)) 235)) = V0 at *
 go_loopw [7] (fun i wr => ∃ a : Nat, i = .int .i64 a ∧ a ≤ nw + 1 ∧ Hid (wr.heap[w.heap.size]? = some (.cells #[.int .i64 6, .int .u32 isp, .int .u32 ism, .bool neg, .int .i64 lo, .int .i64 hi, .slice A ch.len c] 27 (0, 0))) ∧ Hid (wr.heap[w.heap.size + 1]? = some (.cells (tabC (ptab f (nw + 1) a)) 235 (0, 0))) ∧ Below w.heap.size w wr) (fun i _ => nw + 1 - (intOf i).toNat)
 case atStart => exact ⟨0, rfl, Nat.zero_le _, kp, by rw [ptab_zero]; exact kg, kB⟩
 case round =>
  obtain ⟨a, rfl, ha, hp, hg, hB⟩ := hrel
  have hc0 := cell_at_heap (j := 0) (v := .int .i64 6) hp.out rfl
  by_cases hlt : a < nw + 1
  ·have h1 : (a : Int) < (nw : Int) + 1 := by omega
   have h2 : (a : Int) ≤ (nw : Int) := by omega
   have hcg := tabC_get hg.out (ptab_at hlt)
   have hfg := frozen_of_row wr (w.heap.size + 1) a _ _ hg.out
   have hsh := shl_one' a (by omega)
   have hsh2 := shl_one a (by omega)
   by_cases ha0 : a = nw
   ·have h3 : ((a : Int) == (nw : Int)) = true := by simp; omega
    have h3' : (a == nw) = true := by simpa using ha0
    have HF : Hid (((f a : Nat) : Int) = 2 ^ a) := by show _ = _; rw [HFF.out]; simp [ha0]
    clear ha0
    go_wp2
    have t1 : (wr.setCell ⟨w.heap.size + 1, a, none⟩ (.int .u64 (2 ^ a))).heap[w.heap.size + 1]? = some (.cells (tabC (ptab f (nw + 1) (a + 1))) 235 (0, 0)) := by
     rw [← ptab_step, ← tabC_set, HF.out]
     exact heap_setCell_same hg.out
    have t2 : (wr.setCell ⟨w.heap.size + 1, a, none⟩ (.int .u64 (2 ^ a))).heap[w.heap.size]? = some (.cells #[.int .i64 6, .int .u32 isp, .int .u32 ism, .bool neg, .int .i64 lo, .int .i64 hi, .slice A ch.len c] 27 (0, 0)) := (Below.heap_setCell wr ⟨w.heap.size + 1, a, none⟩ (.int .u64 (2 ^ a)) w.heap.size (by simp)).trans hp.out
    have tB : Below w.heap.size w (wr.setCell ⟨w.heap.size + 1, a, none⟩ (.int .u64 (2 ^ a))) := hB.setCell (p := ⟨w.heap.size + 1, a, none⟩) (by simp) _
    go_roundw
    case rel => exact ⟨a + 1, by go_num, by omega, t2, t1, tB⟩
    case measure => simp [intOf] <;> omega
   ·have h3 : ((a : Int) == (nw : Int)) = false := by simp; omega
    have h3' : (a == nw) = false := by simpa using ha0
    have HF0 : Hid (f a = 0) := by show _ = _; rw [HFF.out]; simp [ha0]
    clear ha0 hcg hfg hsh hsh2
    go_wp2
    have hg2 := hg.out
    rw [← ptab_skip (f := f) (m := nw + 1) (j := a) HF0.out] at hg2
    go_roundw
    case rel => exact ⟨a + 1, by go_num, by omega, hp, hg2, hB⟩
    case measure => simp [intOf] <;> omega
  ·obtain rfl : a = nw + 1 := by omega
   have h2 : ¬ ((nw : Int) + 1 ≤ (nw : Int)) := by omega
   have hg' := hg.out
   rw [ptab_all] at hg'
   clear hc0
   have hp0 := cell_at_heap (j := 0) (v := .int .i64 6) hp.out rfl
   go_wp2
   go_ret
   exact ⟨_, _, _, rfl, tab_row hg' (by simp) (by unfold maxLen; omega), HTB.out, hB⟩
theorem table1 (isp ism : Int) (neg : Bool) (lo hi : Int) (ch : Fo) : TbOK ⟨1, isp, ism, neg, lo, hi⟩ ch := by
 intro w A c Aw nw cw ws hs hw hn hal hok hk hu
 have hwl := hw.len
 have hrel : relOf ⟨1, isp, ism, neg, lo, hi⟩ ws (rels ws ch) = sndR isp ism neg ws := rfl
 rw [hrel]
 clear hs hal hok hu hrel
 obtain ⟨f, hf⟩ : ∃ f : Nat → Nat, f = fun k => match ws[k]? with | some s => if hitS isp ism neg s then 2 ^ (k + 1) else 0 | none => 0 := ⟨_, rfl⟩
 have HTB : Hid (Tab ((List.range (nw + 1)).map f) nw (sndR isp ism neg ws)) := by
  rw [hf]
  refine tab_of (fun k hk => ?_) (fun a b ha => ?_) (fun a b h => ?_)
  ·cases hs : ws[k]? with
   | none => exact small_zero
   | some s =>
    have := (List.getElem?_eq_some_iff.1 hs).1
    dsimp only
    split
    ·exact pow_small' _ (by omega)
    ·exact small_zero
  ·rw [sndR_bt _ _ _ (by omega)]
   cases hs : ws[a]? with
   | none => simp
   | some s =>
    dsimp only
    by_cases hh : hitS isp ism neg s = true
    ·rw [if_pos hh, Nat.testBit_two_pow, decide_eq_true_eq]
     exact ⟨fun e => ⟨s, rfl, hh, e.symm⟩, fun ⟨_, _, _, e⟩ => e.symm⟩
    ·rw [if_neg hh]
     constructor
     ·intro h; simp at h
     ·rintro ⟨s', e, h, _⟩
      obtain rfl : s = s' := Option.some.inj e
      exact absurd h hh
  ·obtain ⟨s, hs, _, _⟩ := (sndR_bt _ _ _ (by omega) a b).1 h
   have := (List.getElem?_eq_some_iff.1 hs).1
   omega
 have HFF := hI hf; clear hf
 have HW := hI hw; clear hw hwl
 have HK := hI hk; clear hk
 have hmk : ∀ w : World, (Instr.makeSlice 245 (.int .i64 ((nw : Int) + 1)) (.int .i64 ((nw : Int) + 1))).run Tryz.prog w = .ok (.slice (some ⟨w.heap.size, 0, none⟩) (nw + 1) (nw + 1)) (w.alloc (.cells (madeCells #[.int .u64 0] (nw + 1)) 235)) :=
  fun w => run_make_row' (P := Tryz.prog) 245 235 (.int .u64 0) 8 Tryz.underlying245 u64_info rfl .i64 .i64 (nw + 1) (by omega) (by omega) w
 go_enter Tryz.func233, Tryz.ntmps233
 go_wp2
 clear hmk
 rw [made_tab]
 have kp : ((w.alloc (.cells #[.int .i64 1, .int .u32 isp, .int .u32 ism, .bool neg, .int .i64 lo, .int .i64 hi, .slice A ch.len c] 27)).alloc (.cells (tabC (List.replicate (nw + 1) 0)) 235)).heap[w.heap.size]? = some (.cells #[.int .i64 1, .int .u32 isp, .int .u32 ism, .bool neg, .int .i64 lo, .int .i64 hi, .slice A ch.len c] 27 (0, 0)) := hpt
 have kg : ((w.alloc (.cells #[.int .i64 1, .int .u32 isp, .int .u32 ism, .bool neg, .int .i64 lo, .int .i64 hi, .slice A ch.len c] 27)).alloc (.cells (tabC (List.replicate (nw + 1) 0)) 235)).heap[w.heap.size + 1]? = some (.cells (tabC (List.replicate (nw + 1) 0)) 235 (0, 0)) := hpt
 have kB : Below w.heap.size w ((w.alloc (.cells #[.int .i64 1, .int .u32 isp, .int .u32 ism, .bool neg, .int .i64 lo, .int .i64 hi, .slice A ch.len c] 27)).alloc (.cells (tabC (List.replicate (nw + 1) 0)) 235)) := bel
 generalize ((w.alloc (.cells #[.int .i64 1, .int .u32 isp, .int .u32 ism, .bool neg, .int .i64 lo, .int .i64 hi, .slice A ch.len c] 27)).alloc (.cells (tabC (List.replicate (nw + 1) 0)) 235)) = V0 at *
 go_loopw [7] (fun i wr => ∃ a : Nat, i = .int .i64 a ∧ a ≤ nw + 1 ∧ Hid (wr.heap[w.heap.size]? = some (.cells #[.int .i64 1, .int .u32 isp, .int .u32 ism, .bool neg, .int .i64 lo, .int .i64 hi, .slice A ch.len c] 27 (0, 0))) ∧ Hid (wr.heap[w.heap.size + 1]? = some (.cells (tabC (ptab f (nw + 1) a)) 235 (0, 0))) ∧ Below w.heap.size w wr) (fun i _ => nw + 1 - (intOf i).toNat)
 case atStart => exact ⟨0, rfl, Nat.zero_le _, kp, by rw [ptab_zero]; exact kg, kB⟩
 case round =>
  obtain ⟨a, rfl, ha, hp, hg, hB⟩ := hrel
  have hBs := hB.size
  have hc0 := cell_at_heap (j := 0) (v := .int .i64 1) hp.out rfl
  by_cases hlt : a < nw + 1
  ·have h1 : (a : Int) < (nw : Int) + 1 := by omega
   have h2 : (a : Int) ≤ (nw : Int) := by omega
   by_cases hlt' : a < nw
   ·obtain ⟨b, off, p, m, rfl, hb, hxk, hw0, hw1⟩ := (HW.out.below hB rr).at_ hlt'
    have hd1 : decide (a < nw) = true := decide_eq_true hlt'
    have hd2 : (a : Int) < (nw : Int) := by omega
    have hc1 := cell_at_heap (j := 1) (v := .int .u32 isp) hp.out rfl
    have hc2 := cell_at_heap (j := 2) (v := .int .u32 ism) hp.out rfl
    have hc3 := cell_at_heap (j := 3) (v := .bool neg) hp.out rfl
    have lp := lt_of_block hp.out
    have HFA : Hid (f a = if (hitS isp ism false (p, m) != neg) then 2 ^ (a + 1) else 0) := by
     show _ = _
     rw [HFF.out]
     dsimp only
     rw [hxk]
     unfold hitS
     simp
    clear hxk
    go_wp2
    refine plain_region (fun W' => W'.cell? ⟨b, off + a * 2, none⟩ = some (.int .u32 p) ∧ W'.cell? ⟨b, off + a * 2 + 1, none⟩ = some (.int .u32 m) ∧ W'.cell? ⟨w.heap.size, 1, none⟩ = some (.int .u32 isp) ∧ W'.cell? ⟨w.heap.size, 2, none⟩ = some (.int .u32 ism) ∧ W'.cell? ⟨w.heap.size, 3, none⟩ = some (.bool neg)) (by kernel_rfl) ⟨hw0, hw1, hc1, hc2, hc3⟩ (fun hHeld => ?_)
    (refine' anyT_tk 0 rfl ?_; (try simp only [Act.put, nY, nX])); (refine' anyT_tk 1 rfl ?_; (try simp only [Act.put, nY, nX])); (refine' anyT_tk 2 rfl ?_; (try simp only [Act.put, nY, nX]))
    try rw [hd1]
    (refine' anyT_tk 3 rfl ?_; (try simp only [Act.put, nY, nX])); (refine' anyT_tk 4 rfl ?_; (try simp only [Act.put, nY, nX])); (refine' anyT_tk 5 rfl ?_; (try simp only [Act.put, nY, nX])); (refine' anyT_tk 6 rfl ?_; (try simp only [Act.put, nY, nX])); (refine' anyT_tk 7 rfl ?_; (try simp only [Act.put, nY, nX])); (refine' anyT_tk 8 rfl ?_; (try simp only [Act.put, nY, nX])); (refine' anyT_tk 9 rfl ?_; (try simp only [Act.put, nY, nX])); (refine' anyT_tk 11 rfl ?_; (try simp only [Act.put, nY, nX])); (refine' anyT_tk 12 rfl ?_; (try simp only [Act.put, nY, nX]))
    (refine anyT_sp 10 rfl (fun K' hK' => ?_); simp only [nY]; go_simp)
    refine (r6Sat_c (p, m) isp ism _ HK.out.1 HK.out.2).mono ?_
    rintro e w2 ⟨rfl, hb2'⟩
    obtain ⟨hv, hhv⟩ : ∃ hv, hv = hitS isp ism false (p, m) := ⟨_, rfl⟩
    rw [← hhv] at HFA ⊢
    clear hhv
    have hb2 : Below wr.heap.size wr w2 := (Below.refl wr.heap.size wr).drew.trans hb2'
    have hS2 : w2.cell? ⟨b, off + a * 2, none⟩ = some (.int .u32 p) ∧ w2.cell? ⟨b, off + a * 2 + 1, none⟩ = some (.int .u32 m) ∧ w2.cell? ⟨w.heap.size, 1, none⟩ = some (.int .u32 isp) ∧ w2.cell? ⟨w.heap.size, 2, none⟩ = some (.int .u32 ism) ∧ w2.cell? ⟨w.heap.size, 3, none⟩ = some (.bool neg) :=
     ⟨(hb2.cell (p := ⟨b, off + a * 2, none⟩) hb).trans hw0, (hb2.cell (p := ⟨b, off + a * 2 + 1, none⟩) hb).trans hw1, (hb2.cell (p := ⟨w.heap.size, 1, none⟩) lp).trans hc1, (hb2.cell (p := ⟨w.heap.size, 2, none⟩) lp).trans hc2, (hb2.cell (p := ⟨w.heap.size, 3, none⟩) lp).trans hc3⟩
    refine hK' _ _ ⟨.inr hS2, fun _ => ?_⟩
    clear hK' K' hb2' hHeld hc1 hc2 hc3 hw0 hw1
    have hp2 : Hid (w2.heap[w.heap.size]? = some (.cells #[.int .i64 1, .int .u32 isp, .int .u32 ism, .bool neg, .int .i64 lo, .int .i64 hi, .slice A ch.len c] 27 (0, 0))) := (hb2.block _ lp).trans hp.out
    have hg2 : Hid (w2.heap[w.heap.size + 1]? = some (.cells (tabC (ptab f (nw + 1) a)) 235 (0, 0))) := (hb2.block _ (lt_of_block hg.out)).trans hg.out
    have hB2 : Below w.heap.size w w2 := hB.trans (hb2.mono hBs)
    clear hp hg hB hb2 hc0 hBs hb lp
    (try simp only [Act.put, nY, nX])
    (refine' anyT_tk 13 rfl ?_; (try simp only [Act.put, nY, nX]))
    (refine anyT_sp 14 rfl (fun K' hK' => ?_); simp only [nY]; go_simp)
    refine hK' _ _ ⟨.inl (by kernel_rfl), fun _ => anyT_done (by kernel_rfl) ?_ _⟩
    clear hK' K' hS2
    obtain ⟨d, hd⟩ : ∃ d, d = (!(hv == neg)) := ⟨_, rfl⟩
    have HFD : Hid (f a = if d then 2 ^ (a + 1) else 0) := by show _ = _; rw [HFA.out, hd]; rfl
    rw [← hd]
    clear hd HFA
    have hcg := tabC_get hg2.out (ptab_at hlt)
    have hfg := frozen_of_row w2 (w.heap.size + 1) a _ _ hg2.out
    cases d
    ·have HF0 : Hid (f a = 0) := by show _ = _; rw [HFD.out]; simp
     have hg3 := hg2.out
     rw [← ptab_skip (f := f) (m := nw + 1) (j := a) HF0.out] at hg3
     clear hcg hfg
     go_wp2
     go_roundw
     case rel => exact ⟨a + 1, by go_num, by omega, hp2, hg3, hB2⟩
     case measure => simp [intOf] <;> omega
    ·have HF : Hid (((f a : Nat) : Int) = 2 ^ (a + 1)) := by show _ = _; rw [HFD.out]; simp
     have hsh := shl_one' (a + 1) (by omega)
     have hsh2 := shl_one (a + 1) (by omega)
     have hsh3 : ((a : Int) + 1).toNat = a + 1 := by omega
     go_wp2
     have t1 : (w2.setCell ⟨w.heap.size + 1, a, none⟩ (.int .u64 (2 ^ (a + 1)))).heap[w.heap.size + 1]? = some (.cells (tabC (ptab f (nw + 1) (a + 1))) 235 (0, 0)) := by
      rw [← ptab_step, ← tabC_set, HF.out]
      exact heap_setCell_same hg2.out
     have t2 : (w2.setCell ⟨w.heap.size + 1, a, none⟩ (.int .u64 (2 ^ (a + 1)))).heap[w.heap.size]? = some (.cells #[.int .i64 1, .int .u32 isp, .int .u32 ism, .bool neg, .int .i64 lo, .int .i64 hi, .slice A ch.len c] 27 (0, 0)) := (Below.heap_setCell w2 ⟨w.heap.size + 1, a, none⟩ (.int .u64 (2 ^ (a + 1))) w.heap.size (by simp)).trans hp2.out
     have tB : Below w.heap.size w (w2.setCell ⟨w.heap.size + 1, a, none⟩ (.int .u64 (2 ^ (a + 1)))) := hB2.setCell (p := ⟨w.heap.size + 1, a, none⟩) (by simp) _
     go_roundw
     case rel => exact ⟨a + 1, by go_num, by omega, t2, t1, tB⟩
     case measure => simp [intOf] <;> omega
   ·obtain rfl : a = nw := by omega
    have hd1 : decide (a < a) = false := decide_eq_false (by omega)
    have HF0 : Hid (f a = 0) := by
     show _ = _
     rw [HFF.out]
     dsimp only
     rw [List.getElem?_eq_none (by rw [HW.out.len]; exact rr)]
    go_wp2
    go_quiet (fail)
    have hg2 := hg.out
    rw [← ptab_skip (f := f) (m := a + 1) (j := a) HF0.out] at hg2
    have hBn := hB.drewN nq
    go_wp2
    go_roundw
    case rel => exact ⟨a + 1, by go_num, by omega, hp, hg2, hBn⟩
    case measure => simp [intOf] <;> omega
  ·obtain rfl : a = nw + 1 := by omega
   have h2 : ¬ ((nw : Int) + 1 ≤ (nw : Int)) := by omega
   have hg' := hg.out
   rw [ptab_all] at hg'
   clear hc0
   have hp0 := cell_at_heap (j := 0) (v := .int .i64 1) hp.out rfl
   go_wp2
   go_ret
   exact ⟨_, _, _, rfl, tab_row hg' (by simp) (by unfold maxLen; omega), HTB.out, hB⟩
theorem table3 (isp ism : Int) (neg : Bool) (lo hi : Int) (ch : Fo) (ih : ∀ j k' ch', ch.get j = some (k', ch') → TbOK k' ch') : TbOK ⟨3, isp, ism, neg, lo, hi⟩ ch := by
 intro w A c Aw nw cw ws hs hw hn hal hok hk hu
 have hn63 : ch.len ≤ 9223372036854775807 := by have h1 := hs.1.2.1; have h2 := hs.1.2.2.1; unfold maxLen at h2; omega
 have hwl := hw.len
 have hrel : relOf ⟨3, isp, ism, neg, lo, hi⟩ ws (rels ws ch) = (rels ws ch).foldl thenM (idR nw) := by rw [← hwl]; rfl
 rw [hrel]
 have HI := hI ih; clear ih
 have HS := hI hs; clear hs
 have HW := hI hw; clear hw
 have HOK := hI hok; clear hok
 have HU := hI hu; clear hu
 clear hrel hwl hal hk
 obtain ⟨f, hf⟩ : ∃ f : Nat → Nat, f = fun _ => 0 := ⟨_, rfl⟩
 have HFF := hI hf; clear hf
 have hmk : ∀ w : World, (Instr.makeSlice 245 (.int .i64 ((nw : Int) + 1)) (.int .i64 ((nw : Int) + 1))).run Tryz.prog w = .ok (.slice (some ⟨w.heap.size, 0, none⟩) (nw + 1) (nw + 1)) (w.alloc (.cells (madeCells #[.int .u64 0] (nw + 1)) 235)) :=
  fun w => run_make_row' (P := Tryz.prog) 245 235 (.int .u64 0) 8 Tryz.underlying245 u64_info rfl .i64 .i64 (nw + 1) (by omega) (by omega) w
 go_enter Tryz.func233, Tryz.ntmps233
 go_wp2
 clear hmk
 rw [made_tab]
 have kp : ((w.alloc (.cells #[.int .i64 3, .int .u32 isp, .int .u32 ism, .bool neg, .int .i64 lo, .int .i64 hi, .slice A ch.len c] 27)).alloc (.cells (tabC (List.replicate (nw + 1) 0)) 235)).heap[w.heap.size]? = some (.cells #[.int .i64 3, .int .u32 isp, .int .u32 ism, .bool neg, .int .i64 lo, .int .i64 hi, .slice A ch.len c] 27 (0, 0)) := hpt
 have kg : ((w.alloc (.cells #[.int .i64 3, .int .u32 isp, .int .u32 ism, .bool neg, .int .i64 lo, .int .i64 hi, .slice A ch.len c] 27)).alloc (.cells (tabC (List.replicate (nw + 1) 0)) 235)).heap[w.heap.size + 1]? = some (.cells (tabC (List.replicate (nw + 1) 0)) 235 (0, 0)) := hpt
 have kB : Below w.heap.size w ((w.alloc (.cells #[.int .i64 3, .int .u32 isp, .int .u32 ism, .bool neg, .int .i64 lo, .int .i64 hi, .slice A ch.len c] 27)).alloc (.cells (tabC (List.replicate (nw + 1) 0)) 235)) := bel
 generalize ((w.alloc (.cells #[.int .i64 3, .int .u32 isp, .int .u32 ism, .bool neg, .int .i64 lo, .int .i64 hi, .slice A ch.len c] 27)).alloc (.cells (tabC (List.replicate (nw + 1) 0)) 235)) = V0 at *
 go_loopw [7] (fun i wr => ∃ a : Nat, i = .int .i64 a ∧ a ≤ nw + 1 ∧ Hid (wr.heap[w.heap.size]? = some (.cells #[.int .i64 3, .int .u32 isp, .int .u32 ism, .bool neg, .int .i64 lo, .int .i64 hi, .slice A ch.len c] 27 (0, 0))) ∧ Hid (wr.heap[w.heap.size + 1]? = some (.cells (tabC (ptab f (nw + 1) a)) 235 (0, 0))) ∧ Below w.heap.size w wr) (fun i _ => nw + 1 - (intOf i).toNat)
 case atStart => exact ⟨0, rfl, Nat.zero_le _, kp, by rw [ptab_zero]; exact kg, kB⟩
 case round =>
  obtain ⟨a, rfl, ha, hp, hg, hB⟩ := hrel
  have hc0 := cell_at_heap (j := 0) (v := .int .i64 3) hp.out rfl
  by_cases hlt : a < nw + 1
  ·have h1 : (a : Int) < (nw : Int) + 1 := by omega
   have h2 : (a : Int) ≤ (nw : Int) := by omega
   have HF0 : Hid (f a = 0) := by show _ = _; rw [HFF.out]
   go_wp2
   have hg2 := hg.out
   rw [← ptab_skip (f := f) (m := nw + 1) (j := a) HF0.out] at hg2
   go_roundw
   case rel => exact ⟨a + 1, by go_num, by omega, hp, hg2, hB⟩
   case measure => simp [intOf] <;> omega
  obtain rfl : a = nw + 1 := by omega
  have h2 : ¬ ((nw : Int) + 1 ≤ (nw : Int)) := by omega
  go_wp2_with fail
  refine (same_c nw wr hn).mono ?_
  rintro e w1 ⟨A1, n1, c1, rfl, ht1, hb1⟩
  obtain rfl : n1 = nw + 1 := by rw [← ht1.len, idT_len]
  have HP1 := hI ((hb1.block w.heap.size (lt_of_block hp.out)).trans hp.out)
  have hB1 := hB.trans (hb1.mono hB.size)
  have HT1 := hI ht1; clear ht1
  clear hb1 hc0 hp hg hB ha hlt
  go_wp2
  go_loopw [6, 8] (fun v i wr => ∃ (j : Nat) (A6 : Option Addr) (c6 : Nat) (T : List Nat), v = .slice A6 (nw + 1) c6 ∧ i = .int .i64 j ∧ j ≤ ch.len ∧ Hid (wr.heap[w.heap.size]? = some (.cells #[.int .i64 3, .int .u32 isp, .int .u32 ism, .bool neg, .int .i64 lo, .int .i64 hi, .slice A ch.len c] 27 (0, 0))) ∧ Hid (IsTab wr A6 (nw + 1) c6 T) ∧ Hid (Tab T nw (((rels ws ch).take j).foldl thenM (idR nw))) ∧ Below w.heap.size w wr) (fun _ i _ => ch.len - (intOf i).toNat)
  case atStart => exact ⟨0, A1, c1, idT nw, rfl, rfl, Nat.zero_le _, HP1.out, HT1.out, idT_tab hn, hB1⟩
  case round =>
   obtain ⟨j, A6, c6, T, rfl, rfl, hj, hpb, ht6, htb6, hC⟩ := hrel
   have hCs := hC.size
   have hb6 := cell_at_heap (j := 6) (v := .slice A ch.len c) hpb.out rfl
   by_cases hjl : j < ch.len
   ·obtain ⟨⟨k', ch'⟩, hget⟩ := ch.get_lt j hjl
    obtain ⟨b, off, A', n', c', hA, hbl, ⟨h0, h1, h2, h3, h4, h5, h6⟩, ⟨rfl, hn'⟩, hch', _⟩ := (HS.out.below hC rr).2.at_ ch _ 0 j k' ch' hget
    obtain ⟨hku, hfu⟩ := FoU.get ch j k' ch' HU.out hget
    obtain ⟨hal', hok'⟩ := okF.at_ ch j k' ch' HOK.out hget
    have hrj := rels_get ws ch j k' ch' hget
    have hlen' : (relOf k' ws (rels ws ch')).length = 33 := relOf_len hal' (rels_len ws ch') fun r hr => (rels_all (by rw [HW.out.len]; exact hn) ch' hok' r hr).2
    have HLEN := hI hlen'; clear hlen'
    have HG := hI hget; clear hget
    have HCH := hI hch'; clear hch'
    have HKU := hI hku; clear hku
    have HFU := hI hfu; clear hfu
    have HAL' := hI hal'; clear hal'
    have HOK' := hI hok'; clear hok'
    have HRJ := hI hrj; clear hrj
    subst hA
    simp only [Nat.zero_add] at h0 h1 h2 h3 h4 h5 h6
    go_wp2_with fail
    refine (HI.out j k' ch' HG.out wr A' c' Aw nw cw ws ⟨⟨rfl, hn'⟩, HCH.out⟩ (HW.out.below hC rr) hn HAL'.out HOK'.out HKU.out HFU.out).mono ?_
    rintro e w7 ⟨A7, c7, T7, rfl, ht7, htb7, hb7⟩
    have HT7 := hI ht7; clear ht7
    have HTB7 := hI htb7; clear htb7
    have HPB := hI ((hb7.block w.heap.size (lt_of_block hpb.out)).trans hpb.out)
    have HT6 := hI (ht6.out.below hb7 rr)
    have hC7 := hC.trans (hb7.mono hCs)
    clear hb7 h0 h1 h2 h3 h4 h5 h6 hb6
    go_wp2_with fail
    refine (follow_c A6 A7 (nw + 1) c6 (nw + 1) c7 T T7 w7 HT6.out HT7.out (by omega) (by omega) htb6.out.2.1 HTB7.out.2.1).mono ?_
    rintro e w8 ⟨A8, n8, c8, rfl, ht8, hb8⟩
    obtain rfl : n8 = nw + 1 := by rw [← ht8.len, thenM_len, htb6.out.1]
    have HT8 := hI ht8; clear ht8
    have HPC := hI ((hb8.block w.heap.size (lt_of_block HPB.out)).trans HPB.out)
    have hC8 := hC7.trans (hb8.mono hC7.size)
    have HTB8 : Hid (Tab (thenM T T7) nw (((rels ws ch).take (j + 1)).foldl thenM (idR nw))) := by
     show Tab _ _ _
     rw [foldl_take _ _ _ _ _ HRJ.out]
     exact htb6.out.follow HTB7.out
    clear hb8
    go_wp2
    go_roundw
    case rel => exact ⟨j + 1, A8, c8, thenM T T7, rfl, by go_num, by omega, HPC, HT8, HTB8, hC8⟩
    case measure => simp [intOf] <;> omega
   ·obtain rfl : j = ch.len := by omega
    have htb := htb6.out
    rw [List.take_of_length_le (by rw [rels_len]; exact rr)] at htb
    have HTB := hI htb; clear htb
    go_wp2
    go_ret
    exact ⟨A6, c6, T, rfl, ht6.out, HTB.out, hC⟩
theorem table4 (isp ism : Int) (neg : Bool) (lo hi : Int) (ch : Fo) (ih : ∀ j k' ch', ch.get j = some (k', ch') → TbOK k' ch') : TbOK ⟨4, isp, ism, neg, lo, hi⟩ ch := by
 intro w A c Aw nw cw ws hs hw hn hal hok hk hu
 have hn63 : ch.len ≤ 9223372036854775807 := by have h1 := hs.1.2.1; have h2 := hs.1.2.2.1; unfold maxLen at h2; omega
 have hrel : relOf ⟨4, isp, ism, neg, lo, hi⟩ ws (rels ws ch) = (rels ws ch).foldl orR zeroR := rfl
 rw [hrel]
 have HLR : Hid (∀ q, (((rels ws ch).take q).foldl orR zeroR).length = 33) := by
  intro q
  exact fold_or_len _ (fun r hr => (rels_all (by rw [hw.len]; exact hn) ch hok r (List.mem_of_mem_take hr)).2) _ rfl
 have HI := hI ih; clear ih
 have HS := hI hs; clear hs
 have HW := hI hw; clear hw
 have HOK := hI hok; clear hok
 have HU := hI hu; clear hu
 clear hrel hal hk
 obtain ⟨f, hf⟩ : ∃ f : Nat → Nat, f = fun _ => 0 := ⟨_, rfl⟩
 have HFF := hI hf; clear hf
 have hmk : ∀ w : World, (Instr.makeSlice 245 (.int .i64 ((nw : Int) + 1)) (.int .i64 ((nw : Int) + 1))).run Tryz.prog w = .ok (.slice (some ⟨w.heap.size, 0, none⟩) (nw + 1) (nw + 1)) (w.alloc (.cells (madeCells #[.int .u64 0] (nw + 1)) 235)) :=
  fun w => run_make_row' (P := Tryz.prog) 245 235 (.int .u64 0) 8 Tryz.underlying245 u64_info rfl .i64 .i64 (nw + 1) (by omega) (by omega) w
 go_enter Tryz.func233, Tryz.ntmps233
 go_wp2
 clear hmk
 rw [made_tab]
 have kp : ((w.alloc (.cells #[.int .i64 4, .int .u32 isp, .int .u32 ism, .bool neg, .int .i64 lo, .int .i64 hi, .slice A ch.len c] 27)).alloc (.cells (tabC (List.replicate (nw + 1) 0)) 235)).heap[w.heap.size]? = some (.cells #[.int .i64 4, .int .u32 isp, .int .u32 ism, .bool neg, .int .i64 lo, .int .i64 hi, .slice A ch.len c] 27 (0, 0)) := hpt
 have kg : ((w.alloc (.cells #[.int .i64 4, .int .u32 isp, .int .u32 ism, .bool neg, .int .i64 lo, .int .i64 hi, .slice A ch.len c] 27)).alloc (.cells (tabC (List.replicate (nw + 1) 0)) 235)).heap[w.heap.size + 1]? = some (.cells (tabC (List.replicate (nw + 1) 0)) 235 (0, 0)) := hpt
 have kB : Below w.heap.size w ((w.alloc (.cells #[.int .i64 4, .int .u32 isp, .int .u32 ism, .bool neg, .int .i64 lo, .int .i64 hi, .slice A ch.len c] 27)).alloc (.cells (tabC (List.replicate (nw + 1) 0)) 235)) := bel
 generalize ((w.alloc (.cells #[.int .i64 4, .int .u32 isp, .int .u32 ism, .bool neg, .int .i64 lo, .int .i64 hi, .slice A ch.len c] 27)).alloc (.cells (tabC (List.replicate (nw + 1) 0)) 235)) = V0 at *
 go_loopw [7] (fun i wr => ∃ a : Nat, i = .int .i64 a ∧ a ≤ nw + 1 ∧ Hid (wr.heap[w.heap.size]? = some (.cells #[.int .i64 4, .int .u32 isp, .int .u32 ism, .bool neg, .int .i64 lo, .int .i64 hi, .slice A ch.len c] 27 (0, 0))) ∧ Hid (wr.heap[w.heap.size + 1]? = some (.cells (tabC (ptab f (nw + 1) a)) 235 (0, 0))) ∧ Below w.heap.size w wr) (fun i _ => nw + 1 - (intOf i).toNat)
 case atStart => exact ⟨0, rfl, Nat.zero_le _, kp, by rw [ptab_zero]; exact kg, kB⟩
 case round =>
  obtain ⟨a, rfl, ha, hp, hg, hB⟩ := hrel
  have hc0 := cell_at_heap (j := 0) (v := .int .i64 4) hp.out rfl
  by_cases hlt : a < nw + 1
  ·have h1 : (a : Int) < (nw : Int) + 1 := by omega
   have h2 : (a : Int) ≤ (nw : Int) := by omega
   have HF0 : Hid (f a = 0) := by show _ = _; rw [HFF.out]
   go_wp2
   have hg2 := hg.out
   rw [← ptab_skip (f := f) (m := nw + 1) (j := a) HF0.out] at hg2
   go_roundw
   case rel => exact ⟨a + 1, by go_num, by omega, hp, hg2, hB⟩
   case measure => simp [intOf] <;> omega
  obtain rfl : a = nw + 1 := by omega
  have h2 : ¬ ((nw : Int) + 1 ≤ (nw : Int)) := by omega
  have htab0 : Tab ((List.range (nw + 1)).map f) nw zeroR := by
   refine tab_of (fun k _ => by rw [HFF.out]; exact small_zero) (fun a b _ => ?_) (fun a b h => absurd h (zeroR_bt a b))
   rw [HFF.out]
   exact ⟨fun h => by simp at h, fun h => absurd h (zeroR_bt a b)⟩
  have hg' := hg.out
  rw [ptab_all] at hg'
  have HT0 := hI (tab_row hg' (n := nw + 1) (by simp) (by unfold maxLen; omega))
  have HTAB0 := hI htab0
  clear htab0 hg' hg ha hlt
  go_wp2
  go_loopw [6, 9] (fun v i wr => ∃ (j : Nat) (A6 : Option Addr) (c6 : Nat) (T : List Nat), v = .slice A6 (nw + 1) c6 ∧ i = .int .i64 j ∧ j ≤ ch.len ∧ Hid (wr.heap[w.heap.size]? = some (.cells #[.int .i64 4, .int .u32 isp, .int .u32 ism, .bool neg, .int .i64 lo, .int .i64 hi, .slice A ch.len c] 27 (0, 0))) ∧ Hid (IsTab wr A6 (nw + 1) c6 T) ∧ Hid (Tab T nw (((rels ws ch).take j).foldl orR zeroR)) ∧ Below w.heap.size w wr) (fun _ i _ => ch.len - (intOf i).toNat)
  case atStart => exact ⟨0, some ⟨w.heap.size + 1, 0, none⟩, nw + 1, _, rfl, rfl, Nat.zero_le _, hp, HT0.out, HTAB0.out, hB⟩
  case round =>
   obtain ⟨j, A6, c6, T, rfl, rfl, hj, hpb, ht6, htb6, hC⟩ := hrel
   have hCs := hC.size
   have hb6 := cell_at_heap (j := 6) (v := .slice A ch.len c) hpb.out rfl
   by_cases hjl : j < ch.len
   ·obtain ⟨⟨k', ch'⟩, hget⟩ := ch.get_lt j hjl
    obtain ⟨b, off, A', n', c', hA, hbl, ⟨h0, h1, h2, h3, h4, h5, h6⟩, ⟨rfl, hn'⟩, hch', _⟩ := (HS.out.below hC rr).2.at_ ch _ 0 j k' ch' hget
    obtain ⟨hku, hfu⟩ := FoU.get ch j k' ch' HU.out hget
    obtain ⟨hal', hok'⟩ := okF.at_ ch j k' ch' HOK.out hget
    have hrj := rels_get ws ch j k' ch' hget
    have hlen' : (relOf k' ws (rels ws ch')).length = 33 := relOf_len hal' (rels_len ws ch') fun r hr => (rels_all (by rw [HW.out.len]; exact hn) ch' hok' r hr).2
    have HLEN := hI hlen'; clear hlen'
    have HG := hI hget; clear hget
    have HCH := hI hch'; clear hch'
    have HKU := hI hku; clear hku
    have HFU := hI hfu; clear hfu
    have HAL' := hI hal'; clear hal'
    have HOK' := hI hok'; clear hok'
    have HRJ := hI hrj; clear hrj
    subst hA
    simp only [Nat.zero_add] at h0 h1 h2 h3 h4 h5 h6
    go_wp2_with fail
    refine (HI.out j k' ch' HG.out wr A' c' Aw nw cw ws ⟨⟨rfl, hn'⟩, HCH.out⟩ (HW.out.below hC rr) hn HAL'.out HOK'.out HKU.out HFU.out).mono ?_
    rintro e w7 ⟨A7, c7, T7, rfl, ht7, htb7, hb7⟩
    have HT7 := hI ht7; clear ht7
    have HTB7 := hI htb7; clear htb7
    have HPB := hI ((hb7.block w.heap.size (lt_of_block hpb.out)).trans hpb.out)
    have HT6 := hI (ht6.out.below hb7 rr)
    have hC7 := hC.trans (hb7.mono hCs)
    clear hb7 h0 h1 h2 h3 h4 h5 h6 hb6
    go_wp2_with fail
    refine (join_c A6 A7 (nw + 1) c6 c7 T T7 w7 HT6.out HT7.out (by omega) htb6.out.2.1 HTB7.out.2.1).mono ?_
    rintro e w8 ⟨A8, n8, c8, rfl, ht8, hb8⟩
    have HTB8 : Hid (Tab (orR T T7) nw (((rels ws ch).take (j + 1)).foldl orR zeroR)) := by
     show Tab _ _ _
     rw [foldl_take _ _ _ _ _ HRJ.out]
     exact htb6.out.join HTB7.out (by rw [HLR.out, HLEN.out])
    obtain rfl : n8 = nw + 1 := by rw [← ht8.len, HTB8.out.1]
    have HT8 := hI ht8; clear ht8
    have HPC := hI ((hb8.block w.heap.size (lt_of_block HPB.out)).trans HPB.out)
    have hC8 := hC7.trans (hb8.mono hC7.size)
    clear hb8
    go_wp2
    go_roundw
    case rel => exact ⟨j + 1, A8, c8, orR T T7, rfl, by go_num, by omega, HPC, HT8, HTB8, hC8⟩
    case measure => simp [intOf] <;> omega
   ·obtain rfl : j = ch.len := by omega
    have htb := htb6.out
    rw [List.take_of_length_le (by rw [rels_len]; exact rr)] at htb
    have HTB := hI htb; clear htb
    go_wp2
    go_ret
    exact ⟨A6, c6, T, rfl, ht6.out, HTB.out, hC⟩
theorem bt_ext {x y : List Nat} (hl : x.length = y.length) (h : ∀ a b, Bt x a b ↔ Bt y a b) : x = y := by
 apply List.ext_getElem hl
 intro a h1 h2
 apply Nat.eq_of_testBit_eq
 intro b
 have h3 := h a b
 unfold Bt at h3
 rw [getD_of (List.getElem?_eq_getElem h1), getD_of (List.getElem?_eq_getElem h2)] at h3
 rw [Bool.eq_iff_iff]; exact h3
def Reps (R : Nat → Nat → Prop) (n lo k a b : Nat) : Prop := a ≤ n ∧ ∃ j, lo ≤ j ∧ j < k ∧ It R j a b
theorem reps_succ {R : Nat → Nat → Prop} {n lo k a b : Nat} (hk : lo ≤ k) : Reps R n lo (k + 1) a b ↔ Reps R n lo k a b ∨ (a ≤ n ∧ It R k a b) := by
 unfold Reps
 constructor
 ·rintro ⟨ha, j, h1, h2, h3⟩
  by_cases h : j < k
  ·exact .inl ⟨ha, j, h1, h, h3⟩
  ·obtain rfl : j = k := by omega
   exact .inr ⟨ha, h3⟩
 ·rintro (⟨ha, j, h1, h2, h3⟩ | ⟨ha, h⟩)
  ·exact ⟨ha, j, h1, by omega, h3⟩
  ·exact ⟨ha, k, hk, by omega, h⟩
theorem reps_less {R : Nat → Nat → Prop} {n lo k a b : Nat} (hk : k < lo) : Reps R n lo (k + 1) a b ↔ Reps R n lo k a b := by
 unfold Reps
 exact ⟨fun ⟨_, j, _, _, _⟩ => by omega, fun ⟨_, j, _, _, _⟩ => by omega⟩
theorem reps_max {R : Nat → Nat → Prop} {n lo k : Nat} {hi : Int} (hk : lo ≤ k) (hh : (k : Int) = hi) (a b : Nat) : Reps R n lo (k + 1) a b ↔ a ≤ n ∧ ∃ j, j ≤ extraN lo hi n ∧ It R (lo + j) a b := by
 have e : extraN lo hi n = k - lo := by unfold extraN; rw [if_neg (by omega)]; omega
 rw [e]
 unfold Reps
 constructor
 ·rintro ⟨ha, j, h1, h2, h3⟩
  exact ⟨ha, j - lo, by omega, by rw [show lo + (j - lo) = j by omega]; exact h3⟩
 ·rintro ⟨ha, j, h1, h2⟩
  exact ⟨ha, lo + j, by omega, by omega, h2⟩
theorem reps_still {R : Nat → Nat → Prop} {n lo k : Nat} {hi : Int} (hR : Inn R n) (hk : lo < k) (hh : hi = -1 ∨ (k : Int) < hi) (hst : ∀ a b, a ≤ n → It R k a b → Reps R n lo k a b) (a b : Nat) :
  Reps R n lo (k + 1) a b ↔ a ≤ n ∧ ∃ j, j ≤ extraN lo hi n ∧ It R (lo + j) a b := by
 rw [reps_succ (by omega)]
 constructor
 ·intro h
  obtain ⟨ha, j, h1, h2, h3⟩ : Reps R n lo k a b := by
   rcases h with h | ⟨ha, h⟩
   ·exact h
   ·exact hst a b ha h
  refine ⟨ha, ?_⟩
  rcases hh with rfl | hh
  ·have e : extraN lo (-1) n = n := rfl
   rw [e]
   rw [show j = lo + (j - lo) by omega, It_add] at h3
   obtain ⟨m, h4, h5⟩ := h3
   obtain ⟨i, h6, _, h7⟩ := It_le hR _ m b h5 (It_inn hR _ _ _ h4 ha).2
   exact ⟨i, h6, (It_add lo i a b).2 ⟨m, h4, h7⟩⟩
  ·have e : extraN lo hi n = (hi - lo).toNat := by unfold extraN; rw [if_neg (by omega)]
   rw [e]
   exact ⟨j - lo, by omega, by rw [show lo + (j - lo) = j by omega]; exact h3⟩
 ·rintro ⟨ha, j, _, h2⟩
  by_cases h : lo + j < k
  ·exact .inl ⟨ha, lo + j, by omega, h, h2⟩
  ·rw [show lo + j = k + (lo + j - k) by omega] at h2
   obtain ⟨i, h3, h4, h5⟩ := It_still hk (fun b hb => (hst a b ha hb).2) _ b h2
   exact .inl ⟨ha, i, h3, h4, h5⟩
theorem reps_many {R : Nat → Nat → Prop} {n lo k : Nat} (hR : Inn R n) (hk : lo + n < k) (a b : Nat) (ha : a ≤ n) (h : It R k a b) : Reps R n lo k a b := by
 rw [show k = lo + (k - lo) by omega, It_add] at h
 obtain ⟨m, h1, h2⟩ := h
 obtain ⟨i, h3, _, h4⟩ := It_le hR _ m b h2 (It_inn hR _ _ _ h1 ha).2
 exact ⟨ha, lo + i, by omega, by omega, (It_add lo i a b).2 ⟨m, h1, h4⟩⟩
theorem table5 (isp ism : Int) (neg : Bool) (lo hi : Int) (ch : Fo) (ih : ∀ j k' ch', ch.get j = some (k', ch') → TbOK k' ch') : TbOK ⟨5, isp, ism, neg, lo, hi⟩ ch := by
 intro w A c Aw nw cw ws hs hw hn hal hok hk hu
 obtain ⟨hlen, hlo0, hlo1, hhi⟩ := allowed_rep rfl hal
 obtain ⟨L, hL⟩ : ∃ L : Nat, lo = L := ⟨lo.toNat, by have : (0 : Int) ≤ lo := hlo0; omega⟩
 dsimp only at hlo0 hlo1 hhi
 have hL32 : L ≤ 32 := by omega
 obtain ⟨⟨k', ch'⟩, hget⟩ := ch.get_lt 0 (by omega)
 obtain ⟨hku, hfu⟩ := FoU.get ch 0 k' ch' hu hget
 obtain ⟨hal', hok'⟩ := okF.at_ ch 0 k' ch' hok hget
 obtain ⟨r, hr⟩ : ∃ r, r = relOf k' ws (rels ws ch') := ⟨_, rfl⟩
 have hrj : (rels ws ch)[0]? = some r := by rw [hr]; exact rels_get ws ch 0 k' ch' hget
 have hra := rels_all (by rw [hw.len]; exact hn) ch hok r (List.mem_of_getElem? hrj)
 have hrel : relOf ⟨5, isp, ism, neg, lo, hi⟩ ws (rels ws ch) = repR r L hi nw := by
  have h1 : (rels ws ch).headD [] = r := by
   cases hz : rels ws ch with
   | nil => rw [hz] at hrj; cases hrj
   | cons x y => rw [hz] at hrj; simpa using hrj
  rw [← hw.len]
  show repR ((rels ws ch).headD []) lo.toNat hi ws.length = _
  rw [h1, hL]; rfl
 rw [hrel]
 have HREP : Hid (∀ a b, Bt (repR r L hi nw) a b ↔ a ≤ nw ∧ ∃ j, j ≤ extraN L hi nw ∧ It (Bt r) (L + j) a b) := fun a b => repR_bt hn hra.2 (by rw [← hw.len]; exact hra.1) (by omega) (extraN_lt hn (by omega)) a b
 have HINN : Hid (Inn (Bt r) nw) := by show Inn _ _; rw [← hw.len]; exact hra.1
 have HI := hI (ih 0 k' ch' hget); clear ih
 have HS := hI hs; clear hs
 have HW := hI hw; clear hw
 have HR := hI hr; clear hr
 have HKU := hI hku; clear hku
 have HFU := hI hfu; clear hfu
 have HAL' := hI hal'; clear hal'
 have HOK' := hI hok'; clear hok'
 have HG := hI hget; clear hget
 clear hrel hal hk hrj hra hok hu
 have HLO := hI hL; clear hL
 have hlen0 : 0 < ch.len := by omega
 have HLEN1 := hI hlen; clear hlen
 obtain ⟨f, hf⟩ : ∃ f : Nat → Nat, f = fun _ => 0 := ⟨_, rfl⟩
 have HFF := hI hf; clear hf
 have hmk : ∀ w : World, (Instr.makeSlice 245 (.int .i64 ((nw : Int) + 1)) (.int .i64 ((nw : Int) + 1))).run Tryz.prog w = .ok (.slice (some ⟨w.heap.size, 0, none⟩) (nw + 1) (nw + 1)) (w.alloc (.cells (madeCells #[.int .u64 0] (nw + 1)) 235)) :=
  fun w => run_make_row' (P := Tryz.prog) 245 235 (.int .u64 0) 8 Tryz.underlying245 u64_info rfl .i64 .i64 (nw + 1) (by omega) (by omega) w
 go_enter Tryz.func233, Tryz.ntmps233
 go_wp2
 clear hmk
 rw [made_tab]
 have kp : ((w.alloc (.cells #[.int .i64 5, .int .u32 isp, .int .u32 ism, .bool neg, .int .i64 lo, .int .i64 hi, .slice A ch.len c] 27)).alloc (.cells (tabC (List.replicate (nw + 1) 0)) 235)).heap[w.heap.size]? = some (.cells #[.int .i64 5, .int .u32 isp, .int .u32 ism, .bool neg, .int .i64 lo, .int .i64 hi, .slice A ch.len c] 27 (0, 0)) := hpt
 have kg : ((w.alloc (.cells #[.int .i64 5, .int .u32 isp, .int .u32 ism, .bool neg, .int .i64 lo, .int .i64 hi, .slice A ch.len c] 27)).alloc (.cells (tabC (List.replicate (nw + 1) 0)) 235)).heap[w.heap.size + 1]? = some (.cells (tabC (List.replicate (nw + 1) 0)) 235 (0, 0)) := hpt
 have kB : Below w.heap.size w ((w.alloc (.cells #[.int .i64 5, .int .u32 isp, .int .u32 ism, .bool neg, .int .i64 lo, .int .i64 hi, .slice A ch.len c] 27)).alloc (.cells (tabC (List.replicate (nw + 1) 0)) 235)) := bel
 generalize ((w.alloc (.cells #[.int .i64 5, .int .u32 isp, .int .u32 ism, .bool neg, .int .i64 lo, .int .i64 hi, .slice A ch.len c] 27)).alloc (.cells (tabC (List.replicate (nw + 1) 0)) 235)) = V0 at *
 go_loopw [7] (fun i wr => ∃ a : Nat, i = .int .i64 a ∧ a ≤ nw + 1 ∧ Hid (wr.heap[w.heap.size]? = some (.cells #[.int .i64 5, .int .u32 isp, .int .u32 ism, .bool neg, .int .i64 lo, .int .i64 hi, .slice A ch.len c] 27 (0, 0))) ∧ Hid (wr.heap[w.heap.size + 1]? = some (.cells (tabC (ptab f (nw + 1) a)) 235 (0, 0))) ∧ Below w.heap.size w wr) (fun i _ => nw + 1 - (intOf i).toNat)
 case atStart => exact ⟨0, rfl, Nat.zero_le _, kp, by rw [ptab_zero]; exact kg, kB⟩
 case round =>
  obtain ⟨a, rfl, ha, hp, hg, hB⟩ := hrel
  have hc0 := cell_at_heap (j := 0) (v := .int .i64 5) hp.out rfl
  by_cases hlt : a < nw + 1
  ·have h1 : (a : Int) < (nw : Int) + 1 := by omega
   have h2 : (a : Int) ≤ (nw : Int) := by omega
   have HF0 : Hid (f a = 0) := by show _ = _; rw [HFF.out]
   go_wp2
   have hg2 := hg.out
   rw [← ptab_skip (f := f) (m := nw + 1) (j := a) HF0.out] at hg2
   go_roundw
   case rel => exact ⟨a + 1, by go_num, by omega, hp, hg2, hB⟩
   case measure => simp [intOf] <;> omega
  obtain rfl : a = nw + 1 := by omega
  have h2 : ¬ ((nw : Int) + 1 ≤ (nw : Int)) := by omega
  have htab0 : (∀ a b, Bt ((List.range (nw + 1)).map f) a b ↔ Reps (Bt r) nw L 0 a b) ∧ AllSmall ((List.range (nw + 1)).map f) := by
   constructor
   ·intro a b
    rw [range_bt, HFF.out]
    exact ⟨fun h => by simp at h, fun ⟨_, j, _, h, _⟩ => by omega⟩
   ·intro s hs
    obtain ⟨q, _, rfl⟩ := List.mem_map.1 hs
    rw [HFF.out]; exact small_zero
  have hg' := hg.out
  rw [ptab_all] at hg'
  have HT0 := hI (tab_row hg' (n := nw + 1) (by simp) (by unfold maxLen; omega))
  have HTAB0 := hI htab0
  have hb6 := cell_at_heap (j := 6) (v := .slice A ch.len c) hp.out rfl
  have hBs := hB.size
  obtain ⟨b, off, A', n', c', hA, hbl, ⟨h0, h1, h2', h3, h4, h5, h6⟩, ⟨rfl, hn'⟩, hch', _⟩ := (HS.out.below hB rr).2.at_ ch _ 0 0 k' ch' HG.out
  have HCH := hI hch'; clear hch'
  subst hA
  have hlen1 : (0 : Int) < (ch.len : Int) := by omega
  simp only [Nat.zero_add, Nat.zero_mul, Nat.add_zero] at h0 h1 h2' h3 h4 h5 h6
  clear htab0 hg' hg ha hlt
  go_wp2_with fail
  refine (HI.out wr A' c' Aw nw cw ws ⟨⟨rfl, hn'⟩, HCH.out⟩ (HW.out.below hB rr) hn HAL'.out HOK'.out HKU.out HFU.out).mono ?_
  rw [← HR.out]
  rintro e w7 ⟨A7, c7, T7, rfl, ht7, htb7, hb7⟩
  have HT7 := hI ht7; clear ht7
  have HTB7 := hI htb7; clear htb7
  have HPB := hI ((hb7.block w.heap.size (lt_of_block hp.out)).trans hp.out)
  have HT01 := hI (HT0.out.below hb7 rr)
  have hC7 := hB.trans (hb7.mono hBs)
  clear hb7 h0 h1 h2' h3 h4 h5 h6 hb6 hc0 hp hB hBs HT0 hbl h2
  go_wp2_with fail
  refine (same_c nw w7 hn).mono ?_
  rintro e w8 ⟨A8, n8, c8, rfl, ht8, hb8⟩
  obtain rfl : n8 = nw + 1 := by rw [← ht8.len, idT_len]
  have HT8 := hI ht8; clear ht8
  have HPC := hI ((hb8.block w.heap.size (lt_of_block HPB.out)).trans HPB.out)
  have HT02 := hI (HT01.out.below hb8 rr)
  have HT72 := hI (HT7.out.below hb8 rr)
  have hC8 := hC7.trans (hb8.mono hC7.size)
  have HTM : Hid (∀ a b, Bt (idT nw) a b ↔ a ≤ nw ∧ It (Bt r) 0 a b) := by
   intro a b
   rw [(idT_tab hn).2.2, idR_bt hn]
   exact ⟨fun h => ⟨h.2, h.1⟩, fun h => ⟨h.2, h.1⟩⟩
  clear hb8 HT01 HT7 HPB
  go_wp2
  go_loopw [6, 11, 12] (fun v6 v11 v12 wr => ∃ (k : Nat) (A6 : Option Addr) (c6 : Nat) (T : List Nat) (A11 : Option Addr) (c11 : Nat) (M : List Nat), v6 = .slice A6 (nw + 1) c6 ∧ v11 = .slice A11 (nw + 1) c11 ∧ v12 = .int .i64 k ∧
    k ≤ 66 ∧ Hid ((hi = -1 ∧ k ≤ L + nw + 1) ∨ (k : Int) ≤ hi) ∧ Hid (wr.heap[w.heap.size]? = some (.cells #[.int .i64 5, .int .u32 isp, .int .u32 ism, .bool neg, .int .i64 lo, .int .i64 hi, .slice (some ⟨b, off, none⟩) ch.len c] 27 (0, 0))) ∧
    Hid (IsTab wr A6 (nw + 1) c6 T) ∧ Hid (IsTab wr A11 (nw + 1) c11 M) ∧ Hid (IsTab wr A7 (nw + 1) c7 T7) ∧
    Hid ((∀ a b, Bt T a b ↔ Reps (Bt r) nw L k a b) ∧ AllSmall T) ∧ Hid ((∀ a b, Bt M a b ↔ a ≤ nw ∧ It (Bt r) k a b) ∧ AllSmall M) ∧ Below w.heap.size w wr) (fun _ _ v12 _ => 70 - (intOf v12).toNat)
  case atStart =>
   refine ⟨0, _, _, _, _, _, _, rfl, rfl, rfl, by omega, ?_, HPC.out, HT02.out, HT8.out, HT72.out, HTAB0.out, ⟨HTM.out, (idT_tab hn).2.1⟩, hC8⟩
   rcases hhi with h | h
   ·exact .inl ⟨h, by omega⟩
   ·exact .inr (by omega)
  case round =>
   obtain ⟨k, A6, c6, T, A11, c11, M, rfl, rfl, rfl, hk, hbd, hpb, ht6, ht11, ht7, htb6, htb11, hC⟩ := hrel
   have hCs := hC.size
   have hb3 := cell_at_heap (j := 4) (v := .int .i64 lo) hpb.out rfl
   have hb4 := cell_at_heap (j := 5) (v := .int .i64 hi) hpb.out rfl
   have HSTEP : Hid (∀ a b, Bt (thenM M T7) a b ↔ a ≤ nw ∧ It (Bt r) (k + 1) a b) := by
    intro a b
    rw [thenM_bt]
    constructor
    ·rintro ⟨m, h1, h2⟩
     obtain ⟨h3, h4⟩ := (htb11.out.1 a m).1 h1
     exact ⟨h3, (It_add k 1 a b).2 ⟨m, h4, It_one.2 ((HTB7.out.2.2 m b).1 h2)⟩⟩
    ·rintro ⟨h3, h4⟩
     obtain ⟨m, h5, h6⟩ := (It_add k 1 a b).1 h4
     exact ⟨m, (htb11.out.1 a m).2 ⟨h3, h5⟩, (HTB7.out.2.2 m b).2 (It_one.1 h6)⟩
   by_cases hkl : lo ≤ (k : Int)
   case neg =>
    have hkd : decide (lo ≤ (k : Int)) = false := decide_eq_false hkl
    have HN : Hid (∀ a b, Bt T a b ↔ Reps (Bt r) nw L (k + 1) a b) := by
     intro a b
     rw [htb6.out.1, reps_less (by have := HLO.out; omega)]
    have HBN : Hid ((hi = -1 ∧ k + 1 ≤ L + nw + 1) ∨ ((k + 1 : Nat) : Int) ≤ hi) := by
     have := HLO.out
     rcases hbd.out with h | h
     ·exact .inl ⟨h.1, by omega⟩
     ·exact .inr (by omega)
    have hk63 : k + 1 ≤ 66 := by have := HLO.out; omega
    clear hkl
    go_wp2_with fail
    refine (follow_c A11 A7 (nw + 1) c11 (nw + 1) c7 M T7 wr ht11.out ht7.out (by omega) (by omega) htb11.out.2 HTB7.out.2.1).mono ?_
    rintro e w9 ⟨A9, n9, c9, rfl, ht9, hb9⟩
    obtain rfl : n9 = nw + 1 := by rw [← ht9.len, thenM_len, ht11.out.len]
    have HT9 := hI ht9; clear ht9
    have HP9 := hI ((hb9.block w.heap.size (lt_of_block hpb.out)).trans hpb.out)
    have HT69 := hI (ht6.out.below hb9 rr)
    have HT79 := hI (ht7.out.below hb9 rr)
    have hC9 := hC.trans (hb9.mono hCs)
    clear hb9 hb3 hb4
    go_wp2
    go_roundw
    case rel => exact ⟨k + 1, A6, c6, T, A9, c9, thenM M T7, rfl, rfl, by go_num, hk63, HBN, HP9, HT69, HT9, HT79, ⟨HN.out, htb6.out.2⟩, ⟨HSTEP.out, thenM_small _ _ HTB7.out.2.1⟩, hC9⟩
    case measure => simp [intOf] <;> omega
   have hkL : L ≤ k := by have := HLO.out; omega
   have hkd : decide (lo ≤ (k : Int)) = true := decide_eq_true hkl
   go_wp2_with fail
   refine (join_c A6 A11 (nw + 1) c6 c11 T M wr ht6.out ht11.out (by omega) htb6.out.2 htb11.out.2).mono ?_
   rintro e w8 ⟨A8, n8, c8, rfl, ht8, hb8⟩
   have hlT := ht6.out.len
   have hlM := ht11.out.len
   obtain rfl : n8 = nw + 1 := by rw [← ht8.len]; unfold orR; rw [List.length_zipWith, hlT, hlM]; omega
   have HJ : Hid ((∀ a b, Bt (orR T M) a b ↔ Reps (Bt r) nw L (k + 1) a b) ∧ AllSmall (orR T M)) := by
    refine ⟨fun a b => ?_, orR_small _ _ htb6.out.2 htb11.out.2⟩
    rw [orR_bt (by rw [hlT, hlM]), reps_succ hkL, htb6.out.1, htb11.out.1]
   have HLJ : Hid ((orR T M).length = nw + 1) := ht8.len
   have HLT := hI hlT; clear hlT hlM
   have HT8 := hI ht8; clear ht8
   have HP8 := hI ((hb8.block w.heap.size (lt_of_block hpb.out)).trans hpb.out)
   have HT68 := hI (ht6.out.below hb8 rr)
   have HT78 := hI (ht7.out.below hb8 rr)
   have HT118 := hI (ht11.out.below hb8 rr)
   have hC8 := hC.trans (hb8.mono hCs)
   have hb3' := cell_at_heap (j := 4) (v := .int .i64 lo) HP8.out rfl
   have hb4' := cell_at_heap (j := 5) (v := .int .i64 hi) HP8.out rfl
   clear hb8 hb3 hb4
   by_cases hkm : (k : Int) = hi
   ·have HF : Hid (Tab (orR T M) nw (repR r L hi nw)) := by
     refine ⟨HLJ.out, HJ.out.2, fun a b => ?_⟩
     rw [HJ.out.1, HREP.out]
     exact reps_max hkL hkm a b
    have hkm' : ((k : Int) == hi) = true := by simpa using hkm
    clear hkm
    go_wp2
    go_ret
    exact ⟨A8, c8, orR T M, rfl, HT8.out, HF.out, hC8⟩
   have hkm' : ((k : Int) == hi) = false := by simpa using hkm
   by_cases hkl2 : lo < (k : Int)
   ·have hkl3 : decide (lo < (k : Int)) = true := decide_eq_true hkl2
    have hkL2 : L < k := by have := HLO.out; omega
    go_wp2_with fail
    refine (equalT_c A6 A8 (nw + 1) c6 c8 T (orR T M) w8 HT68.out HT8.out).mono ?_
    rintro e w9 ⟨rfl, hb9⟩
    have HP9 := hI ((hb9.block w.heap.size (lt_of_block HP8.out)).trans HP8.out)
    have HT89 := hI (HT8.out.below hb9 rr)
    have HT79 := hI (HT78.out.below hb9 rr)
    have HT119 := hI (HT118.out.below hb9 rr)
    have hC9 := hC8.trans (hb9.mono hC8.size)
    obtain ⟨d, hd⟩ : ∃ d, d = decide (T = orR T M) := ⟨_, rfl⟩
    rw [← hd]
    clear hb9 hb3' hb4'
    cases d
    case true =>
     have he : T = orR T M := of_decide_eq_true hd.symm
     have HF : Hid (Tab (orR T M) nw (repR r L hi nw)) := by
      refine ⟨HLJ.out, HJ.out.2, fun a b => ?_⟩
      rw [HJ.out.1, HREP.out]
      refine reps_still HINN.out hkL2 ?_ (fun a b ha hb => ?_) a b
      ·rcases hbd.out with h | h
       ·exact .inl h.1
       ·exact .inr (by omega)
      ·have h1 : Bt (orR T M) a b := (HJ.out.1 a b).2 ((reps_succ hkL).2 (.inr ⟨ha, hb⟩))
       rw [← he] at h1
       exact (htb6.out.1 a b).1 h1
     clear he hd hkm
     go_wp2
     go_ret
     exact ⟨A8, c8, orR T M, rfl, HT89.out, HF.out, hC9⟩
    case false =>
     have he : ¬ T = orR T M := of_decide_eq_false hd.symm
     have HBN : Hid ((hi = -1 ∧ k + 1 ≤ L + nw + 1) ∨ ((k + 1 : Nat) : Int) ≤ hi) := by
      rcases hbd.out with h | h
      ·refine .inl ⟨h.1, ?_⟩
       rcases Nat.lt_or_ge (L + nw) k with h2 | h2
       ·refine absurd (bt_ext (by rw [HLT.out, HLJ.out]) fun a b => ?_) he
        rw [HJ.out.1, reps_succ hkL, htb6.out.1]
        exact ⟨.inl, fun h3 => h3.elim id fun h4 => reps_many HINN.out h2 a b h4.1 h4.2⟩
       ·omega
      ·exact .inr (by omega)
     have hk66 : k + 1 ≤ 66 := by
      rcases HBN.out with h | h
      ·omega
      ·have : hi ≤ 32 := by omega
       omega
     clear he hd hkm
     go_wp2_with fail
     refine (follow_c A11 A7 (nw + 1) c11 (nw + 1) c7 M T7 w9 HT119.out HT79.out (by omega) (by omega) htb11.out.2 HTB7.out.2.1).mono ?_
     rintro e w10 ⟨A10, n10, c10, rfl, ht10, hb10⟩
     obtain rfl : n10 = nw + 1 := by rw [← ht10.len, thenM_len, ht11.out.len]
     have HT10 := hI ht10; clear ht10
     have HP10 := hI ((hb10.block w.heap.size (lt_of_block HP9.out)).trans HP9.out)
     have HT810 := hI (IsTab.below (A := A8) (n := nw + 1) (c := c8) (l := orR T M) (by first | exact HT89.out | exact HT8.out) hb10 rr)
     have HT710 := hI (HT79.out.below hb10 rr)
     have hC10 := hC9.trans (hb10.mono hC9.size)
     clear hb10
     go_wp2
     go_roundw
     case rel => exact ⟨k + 1, A8, c8, orR T M, A10, c10, thenM M T7, rfl, rfl, by go_num, hk66, HBN, HP10, HT810, HT10, HT710, HJ, ⟨HSTEP.out, thenM_small _ _ HTB7.out.2.1⟩, hC10⟩
     case measure => simp [intOf] <;> omega
   ·have hkl3 : decide (lo < (k : Int)) = false := decide_eq_false hkl2
    have HBN : Hid ((hi = -1 ∧ k + 1 ≤ L + nw + 1) ∨ ((k + 1 : Nat) : Int) ≤ hi) := by
     have := HLO.out
     rcases hbd.out with h | h
     ·exact .inl ⟨h.1, by omega⟩
     ·exact .inr (by omega)
    have hk66 : k + 1 ≤ 66 := by have := HLO.out; omega
    clear hkm hkl2
    go_wp2_with fail
    refine (follow_c A11 A7 (nw + 1) c11 (nw + 1) c7 M T7 w8 HT118.out HT78.out (by omega) (by omega) htb11.out.2 HTB7.out.2.1).mono ?_
    clear hb3' hb4'
    rintro e w10 ⟨A10, n10, c10, rfl, ht10, hb10⟩
    obtain rfl : n10 = nw + 1 := by rw [← ht10.len, thenM_len, ht11.out.len]
    have HT10 := hI ht10; clear ht10
    have HP10 := hI ((hb10.block w.heap.size (lt_of_block HP8.out)).trans HP8.out)
    have HT810 := hI (IsTab.below (A := A8) (n := nw + 1) (c := c8) (l := orR T M) (by first | exact HT89.out | exact HT8.out) hb10 rr)
    have HT710 := hI (HT78.out.below hb10 rr)
    have hC10 := hC8.trans (hb10.mono hC8.size)
    clear hb10
    go_wp2
    go_roundw
    case rel => exact ⟨k + 1, A8, c8, orR T M, A10, c10, thenM M T7, rfl, rfl, by go_num, hk66, HBN, HP10, HT810, HT10, HT710, HJ, ⟨HSTEP.out, thenM_small _ _ HTB7.out.2.1⟩, hC10⟩
    case measure => simp [intOf] <;> omega
theorem table_step (k : Nd) (ch : Fo) (ih : ∀ j k' ch', ch.get j = some (k', ch') → TbOK k' ch') : TbOK k ch := by
 obtain ⟨kind, isp, ism, neg, lo, hi⟩ := k
 by_cases h : kind < 0 ∨ 6 < kind
 ·intro w A c Aw nw cw ws hs hw hn hal
  exfalso
  unfold allowedM at hal
  dsimp only at hal
  rw [if_neg (by omega), if_neg (by omega), if_neg (by omega), if_neg (by omega)] at hal
  exact absurd hal (by decide)
 ·rcases (by omega : kind = 0 ∨ kind = 1 ∨ kind = 2 ∨ kind = 3 ∨ kind = 4 ∨ kind = 5 ∨ kind = 6) with rfl | rfl | rfl | rfl | rfl | rfl | rfl
  ·exact table0 isp ism neg lo hi ch
  ·exact table1 isp ism neg lo hi ch
  ·exact table2 isp ism neg lo hi ch
  ·exact table3 isp ism neg lo hi ch ih
  ·exact table4 isp ism neg lo hi ch ih
  ·exact table5 isp ism neg lo hi ch ih
  ·exact table6 isp ism neg lo hi ch
theorem table_all : ∀ (f : Fo) (j : Nat) (k : Nd) (ch : Fo), f.get j = some (k, ch) → TbOK k ch
 | .node k0 ch0 nx, 0, k, ch, hg => by
  obtain ⟨rfl, rfl⟩ : k0 = k ∧ ch0 = ch := by simpa [Fo.get] using hg
  exact table_step _ _ (table_all ch0)
 | .node k0 ch0 nx, j + 1, k, ch, hg => table_all nx j k ch (by simpa [Fo.get] using hg)
theorem table_c (k : Nd) (ch : Fo) : TbOK k ch := table_step k ch (table_all ch)
theorem relE_both (x : Nd × Fo) (ws : List Snd) : relE x ws = if checkM 40 [x] ≠ 0 then checkM 40 [x] else wcheck ws := by
 unfold relE wcheck
 have : ws.any (fun s => !wvalid s.1 s.2) = !ws.all (fun s => wvalid s.1 s.2) := by rw [List.not_all_eq_any_not]
 rw [this]
 by_cases h : checkM 40 [x] = 0
 ·simp only [h, ne_eq, not_true_eq_false, if_false]
  by_cases h2 : 32 < ws.length
  ·rw [if_pos h2, if_pos h2]
  ·rw [if_neg h2, if_neg h2]
   cases ws.all (fun s => wvalid s.1 s.2) <;> rfl
 ·simp only [h, ne_eq, not_false_eq_true, if_true]
theorem both_c (k : Nd) (ch : Fo) (A0 : Option Addr) (c0 : Nat) (A : Option Addr) (n c : Nat) (ws : List Snd) (w : World) (hf : FSl w A0 ch.len c0 ch) (hw : IsWord w A n c ws) (hk : NdU k) (hu : FoU ch) (hwu : WordU ws) :
  Calls Tryz.prog 232 #[patV k A0 ch.len c0, .slice A n c] w fun e w' => e = .returned (.int .i64 (relE (k, ch) ws)) ∧ Below w.heap.size w w' := by
 have HR := hI (relE_both (k, ch) ws)
 have HCK := hI (r6Check_c k ch)
 have HF := hI hf; clear hf
 have HW := hI hw; clear hw
 have HK := hI hk; clear hk
 have HU := hI hu; clear hu
 have HWU := hI hwu; clear hwu
 obtain ⟨er, her⟩ : ∃ er, er = checkM 40 [(k, ch)] := ⟨_, rfl⟩
 rw [← her] at HR HCK
 clear her
 obtain ⟨kind, isp, ism, neg, lo, hi⟩ := k
 go_enter Tryz.func232, Tryz.ntmps232
 go_wp2_with fail
 refine (HCK.out _ A0 ch.len c0 (HF.out.below (B := w.heap.size) bel rr) HK.out HU.out).mono ?_
 rintro e w1 ⟨rfl, hb1⟩
 have hB1 : Below w.heap.size w w1 := Below.step (by assumption) (by simp) bel
 clear hb1 HCK
 by_cases h0 : er = 0
 ·have HR1 : Hid (relE (⟨kind, isp, ism, neg, lo, hi⟩, ch) ws = wcheck ws) := by show _ = _; rw [HR.out, if_neg (by simpa using h0)]
  clear HR
  subst h0
  go_wp2_with fail
  refine (r2Check_c A n c ws w1 (HW.out.below hB1 rr) HWU.out).mono ?_
  rintro e w2 ⟨rfl, hb2⟩
  have hB2 := hB1.trans (hb2.mono hB1.size)
  clear hb2
  go_wp2
  go_ret
  exact ⟨by rw [HR1.out]; rfl, hB2⟩
 ·have HR1 : Hid (relE (⟨kind, isp, ism, neg, lo, hi⟩, ch) ws = er) := by show _ = _; rw [HR.out, if_pos h0]
  have h1 : (er == 0) = false := by simpa using h0
  clear HR h0
  go_wp2
  go_ret
  exact ⟨by rw [HR1.out]; rfl, hB1⟩
theorem r6Begins_c (k : Nd) (ch : Fo) (A0 : Option Addr) (c0 : Nat) (A : Option Addr) (n c : Nat) (ws : List Snd) (at_ : Int) (w : World) (hf : FSl w A0 ch.len c0 ch) (hw : IsWord w A n c ws) (hk : NdU k) (hu : FoU ch) (hwu : WordU ws) :
  Calls Tryz.prog 220 #[patV k A0 ch.len c0, .slice A n c, .int .i64 at_] w (RetInts w (beginsM (k, ch) ws at_) (atE (k, ch) ws at_)) := by
 have hn63 := hw.max
 have HRO := hI (fun h => relOf_inn (k := k) (ws := ws) (rs := rels ws ch) (c := ch.len) (relE_zero h).2.1 ((checkM_ok 40 [(k, ch)] rr (relE_zero h).1).2 (k, ch) (by simp)).1 (rels_len ws ch) (rels_all (relE_zero h).2.1 ch ((checkM_ok 40 [(k, ch)] rr (relE_zero h).1).2 (k, ch) (by simp)).2))
 have HCK := hI (fun h => (checkM_ok 40 [(k, ch)] rr (relE_zero (x := (k, ch)) (ws := ws) h).1).2 (k, ch) (by simp))
 have HBO := hI (both_c k ch A0 c0 A n c ws)
 have HTA := hI (table_c k ch)
 have HF := hI hf; clear hf
 have HW := hI hw; clear hw
 have HK := hI hk; clear hk
 have HU := hI hu; clear hu
 have HWU := hI hwu; clear hwu
 obtain ⟨x, hx⟩ : ∃ x, x = (k, ch) := ⟨_, rfl⟩
 rw [← hx] at HRO HBO HCK ⊢
 have HX := hI hx; clear hx
 obtain ⟨kind, isp, ism, neg, lo, hi⟩ := k
 go_enter Tryz.func220, Tryz.ntmps220
 go_wp2_with fail
 have kp : (w.alloc (.cells #[.int .i64 kind, .int .u32 isp, .int .u32 ism, .bool neg, .int .i64 lo, .int .i64 hi, .slice A0 ch.len c0] 27)).heap[w.heap.size]? = some (.cells #[.int .i64 kind, .int .u32 isp, .int .u32 ism, .bool neg, .int .i64 lo, .int .i64 hi, .slice A0 ch.len c0] 27 (0, 0)) := heap_new_at rfl
 have kB : Below w.heap.size w (w.alloc (.cells #[.int .i64 kind, .int .u32 isp, .int .u32 ism, .bool neg, .int .i64 lo, .int .i64 hi, .slice A0 ch.len c0] 27)) := bel
 generalize (w.alloc (.cells #[.int .i64 kind, .int .u32 isp, .int .u32 ism, .bool neg, .int .i64 lo, .int .i64 hi, .slice A0 ch.len c0] 27)) = V0 at *
 refine (HBO.out V0 (HF.out.below kB rr) (HW.out.below kB rr) HK.out HU.out HWU.out).mono ?_
 rintro e w1 ⟨rfl, hb1⟩
 have hp1 := (hb1.block _ (lt_of_block kp)).trans kp
 have hB1 := kB.trans (hb1.mono kB.size)
 clear hb1 kp kB HBO
 obtain ⟨er, her⟩ : ∃ er, er = relE x ws := ⟨_, rfl⟩
 rw [← her]
 by_cases hE : er = 0
 case neg =>
  have hat2 : atE x ws at_ = er := by unfold atE; rw [if_neg (by rw [← her]; exact hE), ← her]
  have hbg : beginsM x ws at_ = [] := by unfold beginsM; rw [hat2, if_neg hE]
  have hE2 : (er != 0) = true := by simpa using hE
  have HXX := hI hat2; have HBG := hI hbg
  clear hat2 hbg hE her
  go_wp2
  go_ret2
  exact ⟨none, 0, by rw [HXX.out, HBG.out]; rfl, by rw [HBG.out]; exact Cells.nil _ _, hB1⟩
 subst hE
 have hz := relE_zero her.symm
 have hn32 : n ≤ 32 := by have := hz.2.1; rw [HW.out.len] at this; exact this
 have HIN := hI (HRO.out her.symm)
 have HALK : Hid (allowedM ⟨kind, isp, ism, neg, lo, hi⟩ ch.len = 0 ∧ okF ch) := by have h := HCK.out her.symm; rw [HX.out] at h; exact h
 have HRR : Hid (relR x ws = relOf ⟨kind, isp, ism, neg, lo, hi⟩ ws (rels ws ch)) := by show _ = _; unfold relR; rw [if_pos her.symm, HX.out]
 have HATE : Hid (atE x ws at_ = existsM n at_) := by show _ = _; unfold atE; rw [if_pos her.symm, HW.out.len]
 clear hz HRO HCK her
 by_cases hx0 : existsM n at_ = 0
 case neg =>
  have hbg : beginsM x ws at_ = [] := by unfold beginsM; rw [HATE.out, if_neg hx0]
  have hex : existsM n at_ = 3 := by unfold existsM at hx0 ⊢; split at hx0 <;> simp_all
  have HBG := hI hbg; have HEX := hI hex
  have hcase : at_ < 0 ∨ (n : Int) < at_ := by unfold existsM at hx0; split at hx0 <;> simp_all
  clear hbg hex hx0 hp1
  by_cases h1 : at_ < 0
  ·have h1' : decide (at_ < 0) = true := decide_eq_true h1
   go_wp2
   go_ret2
   exact ⟨none, 0, by rw [HATE.out, HBG.out, HEX.out]; rfl, by rw [HBG.out]; exact Cells.nil _ _, hB1⟩
  ·have h1' : decide (at_ < 0) = false := decide_eq_false h1
   have h2 : (n : Int) < at_ := by omega
   go_wp2
   go_ret2
   exact ⟨none, 0, by rw [HATE.out, HBG.out, HEX.out]; rfl, by rw [HBG.out]; exact Cells.nil _ _, hB1⟩
 have h0 : 0 ≤ at_ ∧ at_ ≤ n := by unfold existsM at hx0; split at hx0 <;> simp at *; omega
 obtain ⟨m, rfl⟩ : ∃ m : Nat, at_ = m := ⟨at_.toNat, by omega⟩
 have hmn : m ≤ n := by omega
 have hm1 : ¬ (m : Int) < 0 := by omega
 have hm1' : decide ((m : Int) < 0) = false := decide_eq_false hm1
 have hm2 : ¬ (n : Int) < (m : Int) := by omega
 have hm2' : decide (n < m) = false := decide_eq_false (by omega)
 have HAT0 : Hid (atE x ws m = 0) := by show _ = _; rw [HATE.out]; exact hx0
 clear hx0 h0 HATE
 have d0 := cell_at_heap (j := 0) (v := .int .i64 kind) hp1 rfl
 have d1 := cell_at_heap (j := 1) (v := .int .u32 isp) hp1 rfl
 have d2 := cell_at_heap (j := 2) (v := .int .u32 ism) hp1 rfl
 have d3 := cell_at_heap (j := 3) (v := .bool neg) hp1 rfl
 have d4 := cell_at_heap (j := 4) (v := .int .i64 lo) hp1 rfl
 have d5 := cell_at_heap (j := 5) (v := .int .i64 hi) hp1 rfl
 have d6 := cell_at_heap (j := 6) (v := .slice A0 ch.len c0) hp1 rfl
 clear hp1
 go_wp2_with fail
 refine (HTA.out w1 A0 c0 A n c ws (HF.out.below hB1 rr) (HW.out.below hB1 rr) hn32 HALK.out.1 HALK.out.2 HK.out HU.out).mono ?_
 rintro e w2 ⟨A2, c2, T, rfl, ht2, htb, hb2⟩
 have HT2 := hI ht2; clear ht2
 have HTB := hI htb; clear htb
 have hB2 := hB1.trans (hb2.mono hB1.size)
 have HB2 := hI hB2; clear hB2 hB1 hb2 d0 d1 d2 d3 d4 d5 d6 HALK HTA
 obtain ⟨f, hf⟩ : ∃ f : Nat → Bool, f = fun a => ((relR x ws).getD a 0).testBit m := ⟨_, rfl⟩
 have HFD := hI hf; clear hf
 have HBG : Hid (beginsM x ws m = (List.range (n + 1)).filter f) := by
  show _ = _
  unfold beginsM; rw [if_pos HAT0.out, HW.out.len, HFD.out]; rfl
 have HBIT : Hid (∀ j, f j = (T.getD j 0).testBit m) := by
  intro j
  rw [HFD.out, HRR.out, Bool.eq_iff_iff]
  exact (HTB.out.2.2 j m).symm
 go_wp2
 go_loopw [10, 11] (fun l i wr => ∃ (j q : Nat), j ≤ n + 1 ∧ i = .int .i64 j ∧ q ≤ j ∧ Hid (wr.ownsRow w2.heap.size 3 1 l q (ints ((List.range j).filter f))) ∧ Below w2.heap.size w2 wr) (fun _ i _ => n + 1 - (intOf i).toNat)
 case atStart => exact ⟨0, 0, by omega, rfl, by omega, World.ownsRow_nil _ _ _ _, Below.refl _ _⟩
 case round =>
  obtain ⟨j, q, hj, rfl, hq, hown, hB⟩ := hrel
  have hBs := hB.size
  by_cases hlt : j < n + 1
  ·obtain ⟨b, off, s, hA2, hb, hc, hs⟩ := (HT2.out.below hB rr).at_ (k := j) (by omega)
   have hsm := HTB.out.2.1 s (List.mem_of_getElem? hs)
   have hfj : f j = s.testBit m := by rw [HBIT.out, getD_of hs]
   have HFJ := hI hfj; clear hfj hs
   have HSMS := hI hsm; clear hsm
   have hbt := bit_at s m HSMS.out
   rw [← HFJ.out] at hbt
   have hj1 : (j : Int) ≤ (n : Int) := by omega
   have hj2 : (j : Int) < (n : Int) + 1 := by omega
   have hj3 : (m : Int) < (n : Int) + 1 := by omega
   obtain ⟨A1, c1, rfl⟩ := own_form hown.out
   subst hA2
   by_cases hf : f j = true
   ·rw [hf] at hbt
    have HF1 := hI hf; clear hf
    go_wp2_with (at_builtin; refine append_int rfl (.tmp 43) (.tmp 45) rfl w2.heap.size (.slice A1 q c1) q (ints ((List.range j).filter f)) rfl ?hoBegins ⟨wr.heap.size, 0, none⟩ 1 (.int .i64 j) rfl ?haBegins rfl ?hlBegins ?hzBegins ?hcBegins)
    case hoBegins => exact hown.out.alloc _
    case haBegins => exact cell_one_new _ _ _
    case hlBegins => omega
    case hzBegins => simp; omega
    case hcBegins =>
     intro v' w4 hown4 hg4 _
     go_wp2
     go_roundw
     case rel =>
      refine ⟨j + 1, q + 1, by omega, by go_num, by omega, ?_, own_below (hB.alloc hB.size _) (hown.out.alloc _) hg4 rr (by simp; omega)⟩
      show w4.ownsRow _ _ _ _ _ _
      rw [List.range_succ, List.filter_append]
      have : ([j].filter f) = [j] := by simp [HF1.out]
      rw [this]
      simpa [ints] using hown4
     case measure => simp [intOf] <;> omega
   ·have hf' : f j = false := by simpa using hf
    rw [hf'] at hbt
    have HF1 := hI hf'; clear hf hf'
    go_wp2
    go_roundw
    case rel =>
     refine ⟨j + 1, q, by omega, by go_num, by omega, ?_, hB⟩
     show wr.ownsRow _ _ _ _ _ _
     rw [List.range_succ, List.filter_append]
     have : ([j].filter f) = [] := by simp [HF1.out]
     rw [this, List.append_nil]
     exact hown.out
    case measure => simp [intOf] <;> omega
  ·obtain rfl : j = n + 1 := by omega
   have hj1 : ¬ ((n : Int) + 1 ≤ (n : Int)) := by omega
   obtain ⟨A1, c1, rfl⟩ := own_form hown.out
   have hq2 := hown.out.1
   rw [ints_len, Nat.mul_one] at hq2
   have HQ2 := hI hq2; clear hq2
   go_wp2
   go_ret2
   refine ⟨A1, c1, ?_, ?_, HB2.out.trans (hB.mono HB2.out.size)⟩
   ·rw [HAT0.out, HBG.out, HQ2.out]; rfl
   ·rw [HBG.out, HQ2.out]
    exact Cells.of_own hown.out (by decide)
theorem filter_cut {n : Nat} (hn : n ≤ 32) (p : Nat → Bool) (h : ∀ b, p b = true → b ≤ n) : (List.range 33).filter p = (List.range (n + 1)).filter p := by
 rw [show (33 : Nat) = (n + 1) + (32 - n) by omega, List.range_add, List.filter_append]
 have : ((List.range (32 - n)).map (fun x => n + 1 + x)).filter p = [] := by
  rw [List.filter_eq_nil_iff]
  intro x hx hp
  obtain ⟨y, _, rfl⟩ := List.mem_map.1 hx
  have := h _ hp
  omega
 rw [this, List.append_nil]
theorem r6Ends_c (k : Nd) (ch : Fo) (A0 : Option Addr) (c0 : Nat) (A : Option Addr) (n c : Nat) (ws : List Snd) (at_ : Int) (w : World) (hf : FSl w A0 ch.len c0 ch) (hw : IsWord w A n c ws) (hk : NdU k) (hu : FoU ch) (hwu : WordU ws) :
  Calls Tryz.prog 221 #[patV k A0 ch.len c0, .slice A n c, .int .i64 at_] w (RetInts w (endsM (k, ch) ws at_) (atE (k, ch) ws at_)) := by
 have hn63 := hw.max
 have HRO := hI (fun h => relOf_inn (k := k) (ws := ws) (rs := rels ws ch) (c := ch.len) (relE_zero h).2.1 ((checkM_ok 40 [(k, ch)] rr (relE_zero h).1).2 (k, ch) (by simp)).1 (rels_len ws ch) (rels_all (relE_zero h).2.1 ch ((checkM_ok 40 [(k, ch)] rr (relE_zero h).1).2 (k, ch) (by simp)).2))
 have HCK := hI (fun h => (checkM_ok 40 [(k, ch)] rr (relE_zero (x := (k, ch)) (ws := ws) h).1).2 (k, ch) (by simp))
 have HBO := hI (both_c k ch A0 c0 A n c ws)
 have HTA := hI (table_c k ch)
 have HF := hI hf; clear hf
 have HW := hI hw; clear hw
 have HK := hI hk; clear hk
 have HU := hI hu; clear hu
 have HWU := hI hwu; clear hwu
 obtain ⟨x, hx⟩ : ∃ x, x = (k, ch) := ⟨_, rfl⟩
 rw [← hx] at HRO HBO HCK ⊢
 have HX := hI hx; clear hx
 obtain ⟨kind, isp, ism, neg, lo, hi⟩ := k
 go_enter Tryz.func221, Tryz.ntmps221
 go_wp2_with fail
 have kp : (w.alloc (.cells #[.int .i64 kind, .int .u32 isp, .int .u32 ism, .bool neg, .int .i64 lo, .int .i64 hi, .slice A0 ch.len c0] 27)).heap[w.heap.size]? = some (.cells #[.int .i64 kind, .int .u32 isp, .int .u32 ism, .bool neg, .int .i64 lo, .int .i64 hi, .slice A0 ch.len c0] 27 (0, 0)) := heap_new_at rfl
 have kB : Below w.heap.size w (w.alloc (.cells #[.int .i64 kind, .int .u32 isp, .int .u32 ism, .bool neg, .int .i64 lo, .int .i64 hi, .slice A0 ch.len c0] 27)) := bel
 generalize (w.alloc (.cells #[.int .i64 kind, .int .u32 isp, .int .u32 ism, .bool neg, .int .i64 lo, .int .i64 hi, .slice A0 ch.len c0] 27)) = V0 at *
 refine (HBO.out V0 (HF.out.below kB rr) (HW.out.below kB rr) HK.out HU.out HWU.out).mono ?_
 rintro e w1 ⟨rfl, hb1⟩
 have hp1 := (hb1.block _ (lt_of_block kp)).trans kp
 have hB1 := kB.trans (hb1.mono kB.size)
 clear hb1 kp kB HBO
 obtain ⟨er, her⟩ : ∃ er, er = relE x ws := ⟨_, rfl⟩
 rw [← her]
 by_cases hE : er = 0
 case neg =>
  have hat2 : atE x ws at_ = er := by unfold atE; rw [if_neg (by rw [← her]; exact hE), ← her]
  have hbg : endsM x ws at_ = [] := by unfold endsM; rw [hat2, if_neg hE]
  have hE2 : (er != 0) = true := by simpa using hE
  have HXX := hI hat2; have HBG := hI hbg
  clear hat2 hbg hE her
  go_wp2
  go_ret2
  exact ⟨none, 0, by rw [HXX.out, HBG.out]; rfl, by rw [HBG.out]; exact Cells.nil _ _, hB1⟩
 subst hE
 have hz := relE_zero her.symm
 have hn32 : n ≤ 32 := by have := hz.2.1; rw [HW.out.len] at this; exact this
 have HIN := hI (HRO.out her.symm)
 have HALK : Hid (allowedM ⟨kind, isp, ism, neg, lo, hi⟩ ch.len = 0 ∧ okF ch) := by have h := HCK.out her.symm; rw [HX.out] at h; exact h
 have HRR : Hid (relR x ws = relOf ⟨kind, isp, ism, neg, lo, hi⟩ ws (rels ws ch)) := by show _ = _; unfold relR; rw [if_pos her.symm, HX.out]
 have HATE : Hid (atE x ws at_ = existsM n at_) := by show _ = _; unfold atE; rw [if_pos her.symm, HW.out.len]
 clear hz HRO HCK her
 by_cases hx0 : existsM n at_ = 0
 case neg =>
  have hbg : endsM x ws at_ = [] := by unfold endsM; rw [HATE.out, if_neg hx0]
  have hex : existsM n at_ = 3 := by unfold existsM at hx0 ⊢; split at hx0 <;> simp_all
  have HBG := hI hbg; have HEX := hI hex
  have hcase : at_ < 0 ∨ (n : Int) < at_ := by unfold existsM at hx0; split at hx0 <;> simp_all
  clear hbg hex hx0 hp1
  by_cases h1 : at_ < 0
  ·have h1' : decide (at_ < 0) = true := decide_eq_true h1
   go_wp2
   go_ret2
   exact ⟨none, 0, by rw [HATE.out, HBG.out, HEX.out]; rfl, by rw [HBG.out]; exact Cells.nil _ _, hB1⟩
  ·have h1' : decide (at_ < 0) = false := decide_eq_false h1
   have h2 : (n : Int) < at_ := by omega
   go_wp2
   go_ret2
   exact ⟨none, 0, by rw [HATE.out, HBG.out, HEX.out]; rfl, by rw [HBG.out]; exact Cells.nil _ _, hB1⟩
 have h0 : 0 ≤ at_ ∧ at_ ≤ n := by unfold existsM at hx0; split at hx0 <;> simp at *; omega
 obtain ⟨m, rfl⟩ : ∃ m : Nat, at_ = m := ⟨at_.toNat, by omega⟩
 have hmn : m ≤ n := by omega
 have hm1 : ¬ (m : Int) < 0 := by omega
 have hm1' : decide ((m : Int) < 0) = false := decide_eq_false hm1
 have hm2 : ¬ (n : Int) < (m : Int) := by omega
 have hm2' : decide (n < m) = false := decide_eq_false (by omega)
 have HAT0 : Hid (atE x ws m = 0) := by show _ = _; rw [HATE.out]; exact hx0
 clear hx0 h0 HATE
 have d0 := cell_at_heap (j := 0) (v := .int .i64 kind) hp1 rfl
 have d1 := cell_at_heap (j := 1) (v := .int .u32 isp) hp1 rfl
 have d2 := cell_at_heap (j := 2) (v := .int .u32 ism) hp1 rfl
 have d3 := cell_at_heap (j := 3) (v := .bool neg) hp1 rfl
 have d4 := cell_at_heap (j := 4) (v := .int .i64 lo) hp1 rfl
 have d5 := cell_at_heap (j := 5) (v := .int .i64 hi) hp1 rfl
 have d6 := cell_at_heap (j := 6) (v := .slice A0 ch.len c0) hp1 rfl
 clear hp1
 go_wp2_with fail
 refine (HTA.out w1 A0 c0 A n c ws (HF.out.below hB1 rr) (HW.out.below hB1 rr) hn32 HALK.out.1 HALK.out.2 HK.out HU.out).mono ?_
 rintro e w2 ⟨A2, c2, T, rfl, ht2, htb, hb2⟩
 have HT2 := hI ht2; clear ht2
 have HTB := hI htb; clear htb
 have hB2 := hB1.trans (hb2.mono hB1.size)
 have HB2 := hI hB2; clear hB2 hB1 hb2 d0 d1 d2 d3 d4 d5 d6 HALK HTA
 obtain ⟨f, hf⟩ : ∃ f : Nat → Bool, f = fun b => ((relR x ws).getD m 0).testBit b := ⟨_, rfl⟩
 have HFD := hI hf; clear hf
 have HBG : Hid (endsM x ws m = (List.range (n + 1)).filter f) := by
  show _ = _
  unfold endsM; rw [if_pos HAT0.out, HFD.out]; exact filter_cut hn32 _ (fun b hb => by have h1 : Bt (relR x ws) m b := hb; rw [HRR.out] at h1; have h2 := HIN.out m b h1; have h3 := HW.out.len; omega)
 have HBIT : Hid (∀ j, f j = (T.getD m 0).testBit j) := by
  intro j
  rw [HFD.out, HRR.out, Bool.eq_iff_iff]
  exact (HTB.out.2.2 m j).symm
 go_wp2
 go_loopw [10, 11] (fun l i wr => ∃ (j q : Nat), j ≤ n + 1 ∧ i = .int .i64 j ∧ q ≤ j ∧ Hid (wr.ownsRow w2.heap.size 3 1 l q (ints ((List.range j).filter f))) ∧ Below w2.heap.size w2 wr) (fun _ i _ => n + 1 - (intOf i).toNat)
 case atStart => exact ⟨0, 0, by omega, rfl, by omega, World.ownsRow_nil _ _ _ _, Below.refl _ _⟩
 case round =>
  obtain ⟨j, q, hj, rfl, hq, hown, hB⟩ := hrel
  have hBs := hB.size
  by_cases hlt : j < n + 1
  ·obtain ⟨b, off, s, hA2, hb, hc, hs⟩ := (HT2.out.below hB rr).at_ (k := m) (by omega)
   have hsm := HTB.out.2.1 s (List.mem_of_getElem? hs)
   have hfj : f j = s.testBit j := by rw [HBIT.out, getD_of hs]
   have HFJ := hI hfj; clear hfj hs
   have HSMS := hI hsm; clear hsm
   have hbt := bit_at s j HSMS.out
   rw [← HFJ.out] at hbt
   have hj1 : (j : Int) ≤ (n : Int) := by omega
   have hj2 : (j : Int) < (n : Int) + 1 := by omega
   have hj3 : (m : Int) < (n : Int) + 1 := by omega
   obtain ⟨A1, c1, rfl⟩ := own_form hown.out
   subst hA2
   by_cases hf : f j = true
   ·rw [hf] at hbt
    have HF1 := hI hf; clear hf
    go_wp2_with (at_builtin; refine append_int rfl (.tmp 43) (.tmp 45) rfl w2.heap.size (.slice A1 q c1) q (ints ((List.range j).filter f)) rfl ?hoEnds ⟨wr.heap.size, 0, none⟩ 1 (.int .i64 j) rfl ?haEnds rfl ?hlEnds ?hzEnds ?hcEnds)
    case hoEnds => exact hown.out.alloc _
    case haEnds => exact cell_one_new _ _ _
    case hlEnds => omega
    case hzEnds => simp; omega
    case hcEnds =>
     intro v' w4 hown4 hg4 _
     go_wp2
     go_roundw
     case rel =>
      refine ⟨j + 1, q + 1, by omega, by go_num, by omega, ?_, own_below (hB.alloc hB.size _) (hown.out.alloc _) hg4 rr (by simp; omega)⟩
      show w4.ownsRow _ _ _ _ _ _
      rw [List.range_succ, List.filter_append]
      have : ([j].filter f) = [j] := by simp [HF1.out]
      rw [this]
      simpa [ints] using hown4
     case measure => simp [intOf] <;> omega
   ·have hf' : f j = false := by simpa using hf
    rw [hf'] at hbt
    have HF1 := hI hf'; clear hf hf'
    go_wp2
    go_roundw
    case rel =>
     refine ⟨j + 1, q, by omega, by go_num, by omega, ?_, hB⟩
     show wr.ownsRow _ _ _ _ _ _
     rw [List.range_succ, List.filter_append]
     have : ([j].filter f) = [] := by simp [HF1.out]
     rw [this, List.append_nil]
     exact hown.out
    case measure => simp [intOf] <;> omega
  ·obtain rfl : j = n + 1 := by omega
   have hj1 : ¬ ((n : Int) + 1 ≤ (n : Int)) := by omega
   obtain ⟨A1, c1, rfl⟩ := own_form hown.out
   have hq2 := hown.out.1
   rw [ints_len, Nat.mul_one] at hq2
   have HQ2 := hI hq2; clear hq2
   go_wp2
   go_ret2
   refine ⟨A1, c1, ?_, ?_, HB2.out.trans (hB.mono HB2.out.size)⟩
   ·rw [HAT0.out, HBG.out, HQ2.out]; rfl
   ·rw [HBG.out, HQ2.out]
    exact Cells.of_own hown.out (by decide)
end Go.Proofs.YtcpcojgmmpnkoaaGreatDoor

/-
  slices.SortStableFunc over at most 19 waves that have arrived.
  slices.SortStableFunc over at most 19 waves that have arrived: the whole call.
  The iterator of wave.arrived.
  wave.arrived, wave.line.
  wave.line.
  wave.Line.
  slices.Clone of a word: what is returned may be written.
  What wave.Forms keeps: the forms that have been derived, by the indexes of the laws, and those of the points so far.
-/
import Derived.Shelf.SlSortCmp.Insertion
import Derived.Maps.OwnSet
import Derived.Maps.Views
import Derived.Laws.IdiomStrings
import Derived.Maps.OwnOps
import Derived.Test.YtaglfmlgbcmakaaGreatDoorH03
set_option linter.all false
set_option maxRecDepth 100000
set_option maxHeartbeats 4000000
namespace Go.Proofs.YtaglfmlgbcmakaaGreatDoor
open Go.RowKit Go.Shelf Go.Sort Go.Lib
def capN (m x : Nat) : Nat := if x < m then x else 0
theorem capN_lt {m x : Nat} (h : 0 < m) : capN m x < m := by unfold capN; split <;> omega
theorem capN_of {m x : Nat} (h : x < m) : capN m x = x := by unfold capN; rw [if_pos h]
theorem rank_sorted {m : Nat} {tt : Nat → Option Nat} {p : Nat → Bool} {op : List Nat} (hop : op = (List.range m).filter p) (hmx : ∀ i x, tt i = some x → x < 9223372036854775807) (hm : 0 < m) :
  (insertionSort (ltOf fun x y => cmpQ (rankO (tt (capN m x))) (rankO (tt (capN m y)))) op.toArray 0 op.toArray.size).toList = byRank (waveLt tt) p m := by
 have hlt : (ltOf fun x y => cmpQ (rankO (tt (capN m x))) (rankO (tt (capN m y)))) = fun i j => decide (rankO (tt (capN m i)) < rankO (tt (capN m j))) := by
  funext x y
  unfold ltOf
  have := cmp_lt (rankO (tt (capN m x))) (rankO (tt (capN m y)))
  by_cases h : rankO (tt (capN m x)) < rankO (tt (capN m y))
  ·rw [decide_eq_true h, decide_eq_true (this.2 h)]
  ·rw [decide_eq_false h, decide_eq_false (fun h' => h (this.1 h'))]
 rw [hlt]
 have hr : ∀ i j, decide (rankO (tt (capN m i)) < rankO (tt (capN m j))) = match tt (capN m i), tt (capN m j) with | some x, some y => decide (x < y) | some _, none => true | none, _ => false := by
  intro i j
  cases hi : tt (capN m i) with
  | none =>
   cases hj : tt (capN m j) with
   | none => rfl
   | some y =>
    have := hmx _ _ hj
    show decide ((9223372036854775807 : Int) < (y : Int)) = false
    exact decide_eq_false (by omega)
  | some x =>
   have hx := hmx _ _ hi
   cases hj : tt (capN m j) with
   | none =>
    show decide ((x : Int) < (9223372036854775807 : Int)) = true
    exact decide_eq_true (by omega)
   | some y =>
    show decide ((x : Int) < (y : Int)) = decide (x < y)
    by_cases h : x < y
    ·rw [decide_eq_true h, decide_eq_true (by omega)]
    ·rw [decide_eq_false h, decide_eq_false (by omega)]
 have h := stable_rank (t := fun i => tt (capN m i)) (rk := fun i => rankO (tt (capN m i))) hr (p := p) (m := m) (d := op.toArray) hop
 rw [h]
 refine byRank_unique (wave_strict tt) p m ?_ fun i => by rw [byRank_mem (wave_strict _)]
 have hs := byRank_sorted (wave_strict fun i => tt (capN m i)) p m
 refine hs.imp_of_mem fun {a b} ha hb hab => ?_
 rw [byRank_mem (wave_strict _)] at ha hb
 unfold waveLt at hab ⊢
 simp only [capN_of ha.1, capN_of hb.1] at hab
 exact hab
theorem OpRow.put {w : World} {base g cap : Nat} {op : List Nat} {enc : Nat → Value} {q : Nat} {d : Array Nat} (h : OpRow w base g cap op) (hd : d.size = op.length) (he : ∀ x ∈ d.toList, enc x = .int .i64 (x : Int)) :
  OpRow ((putRow enc w g 0 d).drewN q) base g cap d.toList := by
 obtain ⟨hb, hnc, hcm, cur, hg, hcs, ht⟩ := h.block
 have hmx : cap ≤ 9223372036854775807 := hcm
 refine ⟨by simp, Or.inr ⟨g, cap, putCells enc 0 d cur, by simp, hb, ?_, by simp; omega, hcm, by unfold putCells; simp; omega, ?_⟩⟩
 ·show (putRow enc w g 0 d).heap[g]? = _
  unfold putRow mapBlock
  simp only
  rw [Array.getElem?_modify, if_pos rfl, hg]; rfl
 ·rw [Nat.mul_one]
  apply List.ext_getElem?
  intro j
  rw [List.getElem?_take, List.getElem?_map]
  have hdl : d.toList.length = d.size := by simp
  by_cases hj : j < d.size
  ·rw [if_pos (by simpa using hj)]
   have hjc : j < cur.size := by omega
   unfold putCells
   rw [Array.getElem?_toList, Array.getElem?_mapIdx, Array.getElem?_eq_getElem hjc, Option.map_some, if_pos ⟨Nat.zero_le _, by omega⟩, Nat.sub_zero, getElem!_pos d j hj]
   rw [Array.getElem?_toList, Array.getElem?_eq_getElem hj, Option.map_some, he _ (by simp)]
  ·rw [if_neg (by simpa using hj), Array.getElem?_toList, Array.getElem?_eq_none (by omega)]; rfl
theorem keep_putq {enc : Nat → Value} (w : World) (g q : Nat) (d : Array Nat) : Keep (fun k => k = g) w ((putRow enc w g 0 d).drewN q) := by
 have h := keep_srt (enc := enc) w g q d #[]
 rwa [sortWorld_none] at h
theorem insI_c (op : List Nat) (base g cap m tg tb : Nat) (tt : Nat → Option Nat) (p : Nat → Bool) (hop : op = (List.range m).filter p) (hmx : ∀ i x, tt i = some x → x < 9223372036854775807) (hm : 0 < m) (h64 : m ≤ 64)
  (w : World) (hO : OpRow w base g cap op) (hT : TimesAt w tg tb m tt) (h1 : tg ≠ g) (h2 : tb ≠ g) :
  Calls Tryz.prog 185 #[.slice (some ⟨g, 0, none⟩) op.length cap, .int .i64 0, .int .i64 (op.length : Int), .func (.func 142) #[] #[.pointer (some ⟨tg, 0, none⟩)]] w fun e w' =>
   e = .returned (.tuple #[]) ∧ OpRow w' base g cap (byRank (waveLt tt) p m) ∧ (byRank (waveLt tt) p m).length = op.length ∧ Keep (fun k => k = g) w w' := by
 obtain ⟨hb, hnc, hcm, cur, hg, hcs, ht⟩ := hO.block
 have hin : ∀ x ∈ op, x < m := fun x hx => by rw [hop] at hx; exact List.mem_range.1 (List.mem_filter.1 hx).1
 have hlen : op.length ≤ m := by rw [hop]; exact Nat.le_trans (List.length_filter_le _ _) (by simp)
 have hH : Holds (fun x : Nat => Value.int .i64 (capN m x : Nat)) w g 0 op.toArray := holds_of hg fun j x hx => by
  have hx' : op[j]? = some x := by simpa using hx
  rw [capN_of (hin x (List.mem_of_getElem? hx'))]
  exact take_get ht j x hx'
 have hcon := Any.insertionSortCmpFunc_one Tryz.insI (fun x : Nat => Value.int .i64 (capN m x : Nat)) (fun _ => rfl) (fun x y => cmpQ (rankO (tt (capN m x))) (rankO (tt (capN m y)))) 142 #[.pointer (some ⟨tg, 0, none⟩)] g 0 cap 0 op.toArray.size op.toArray w
  (enters_of Tryz.func142 (by kernel_rfl) rfl) (fun mm os dk _ x y => ?hcmp) hH (Nat.zero_le _) rr (by simp; omega)
 case hcmp =>
  have hK := keep_srt (enc := fun x : Nat => Value.int .i64 (capN m x : Nat)) w g mm dk os
  refine (earlier_c (capN m x) (capN m y) m tg tb tt (capN_lt hm) (capN_lt hm) _ (hT.keep hK h1 h2)).mono ?_
  rintro e w' ⟨e1, e2⟩
  exact ⟨e1, 1, e2⟩
 rw [show op.toArray.size = op.length from by simp] at hcon
 refine Calls.mono hcon ?_
 rintro e w' ⟨rfl, q, rfl⟩
 have hs := rank_sorted (tt := tt) hop hmx hm
 have hlr : (byRank (waveLt tt) p m).length = op.length := by rw [rank_len (wave_strict tt), hop]
 rw [show op.toArray.size = op.length from by simp] at hs
 generalize insertionSort (ltOf fun x y => cmpQ (rankO (tt (capN m x))) (rankO (tt (capN m y)))) op.toArray 0 op.length = d at hs ⊢
 refine ⟨rfl, ?_, hlr, keep_putq w g q d⟩
 rw [← hs]
 refine hO.put (by rw [← hlr, ← hs]; simp) fun x hx => ?_
 rw [hs, byRank_mem (wave_strict tt)] at hx
 rw [capN_of hx.1]
end Go.Proofs.YtaglfmlgbcmakaaGreatDoor
namespace Go.Proofs.YtaglfmlgbcmakaaGreatDoor
open Go.RowKit Go.Shelf
theorem stable_c (op : List Nat) (base g cap m tg tb : Nat) (tt : Nat → Option Nat) (p : Nat → Bool) (hop : op = (List.range m).filter p) (hmx : ∀ i x, tt i = some x → x < 9223372036854775807) (hm : 0 < m) (h64 : m ≤ 19)
  (w : World) (hO : OpRow w base g cap op) (hT : TimesAt w tg tb m tt) (h1 : tg ≠ g) (h2 : tb ≠ g) :
  Calls Tryz.prog 141 #[.slice (some ⟨g, 0, none⟩) op.length cap, .func (.func 142) #[] #[.pointer (some ⟨tg, 0, none⟩)]] w fun e w' =>
   e = .returned (.tuple #[]) ∧ OpRow w' base g cap (byRank (waveLt tt) p m) ∧ (byRank (waveLt tt) p m).length = op.length ∧ Keep (fun k => k = g) w w' := by
 have HI := hI (insI_c op base g cap m tg tb tt p hop hmx hm (by omega) w hO hT h1 h2)
 have hlen : op.length ≤ m := by rw [hop]; exact Nat.le_trans (List.length_filter_le _ _) (by simp)
 obtain ⟨n, hn⟩ : ∃ n, n = op.length := ⟨_, rfl⟩
 rw [← hn] at HI hlen ⊢
 have hn19 : n ≤ 19 := by omega
 clear hop hmx hm h64 hO hT hlen hn h1 h2
 have hst : Calls Tryz.prog 171 #[.slice (some ⟨g, 0, none⟩) n cap, .int .i64 (n : Int), .func (.func 142) #[] #[.pointer (some ⟨tg, 0, none⟩)]] w fun e w' =>
   e = .returned (.tuple #[]) ∧ OpRow w' base g cap (byRank (waveLt tt) p m) ∧ (byRank (waveLt tt) p m).length = n ∧ Keep (fun k => k = g) w w' := by
  go_enter Tryz.func171, Tryz.ntmps171
  go_wp2_with fail
  refine wp_loop_rounds 1 ?_
  rw [rounds_succ]
  go_wp2_with fail
  refine HI.out.mono ?_
  rintro e w1 ⟨rfl, h1, h2, h3⟩
  have H1 := hI h1; have H2 := hI h2; have H3 := hI h3
  clear h1 h2 h3
  go_wp2_with fail
  refine wp_loop_rounds 1 ?_
  rw [rounds_succ]
  go_wp2_with fail
  go_end0
  exact ⟨rfl, H1.out, H2.out, H3.out⟩
 have HST := hI hst
 clear hst HI
 go_enter Tryz.func141, Tryz.ntmps141
 go_wp2_with fail
 refine HST.out.mono ?_
 rintro e w1 ⟨rfl, h1, h2, h3⟩
 have H1 := hI h1; have H2 := hI h2; have H3 := hI h3
 clear h1 h2 h3
 go_wp2_with fail
 go_end0
 exact ⟨rfl, H1.out, H2.out, H3.out⟩
theorem stable0_c (tg : Nat) (fv : Value) (hf : fv = .func (.func 142) #[] #[.pointer (some ⟨tg, 0, none⟩)]) (w : World) :
  Calls Tryz.prog 141 #[.slice none 0 0, fv] w fun e w' => e = .returned (.tuple #[]) ∧ w' = w := by
 subst hf
 have hi : Calls Tryz.prog 185 #[.slice none 0 0, .int .i64 0, .int .i64 0, .func (.func 142) #[] #[.pointer (some ⟨tg, 0, none⟩)]] w fun e w' => e = .returned (.tuple #[]) ∧ w' = w := by
  go_enter Tryz.func185, Tryz.ntmps185
  go_wp2_with fail
  refine wp_loop_rounds 1 ?_
  rw [rounds_succ]
  go_wp2_with fail
  go_end0
  exact ⟨rfl, rfl⟩
 have HI := hI hi
 have hst : Calls Tryz.prog 171 #[.slice none 0 0, .int .i64 0, .func (.func 142) #[] #[.pointer (some ⟨tg, 0, none⟩)]] w fun e w' => e = .returned (.tuple #[]) ∧ w' = w := by
  go_enter Tryz.func171, Tryz.ntmps171
  go_wp2_with fail
  refine wp_loop_rounds 1 ?_
  rw [rounds_succ]
  go_wp2_with fail
  refine HI.out.mono ?_
  rintro e w1 ⟨rfl, rfl⟩
  go_wp2_with fail
  refine wp_loop_rounds 1 ?_
  rw [rounds_succ]
  go_wp2_with fail
  go_end0
  exact ⟨rfl, rfl⟩
 have HST := hI hst
 go_enter Tryz.func141, Tryz.ntmps141
 go_wp2_with fail
 refine HST.out.mono ?_
 rintro e w1 ⟨rfl, rfl⟩
 go_wp2_with fail
 go_end0
 exact ⟨rfl, rfl⟩
end Go.Proofs.YtaglfmlgbcmakaaGreatDoor
namespace Go.Proofs.YtaglfmlgbcmakaaGreatDoor
open Go.RowKit Go.Shelf
attribute [local go_sem] Oper.semAt_some
def TimW (w : World) (g B j : Nat) (tt : Nat → Option Nat) : Prop := ∃ v, w.heap[g]? = some (.cells #[v] 192 (0, 0)) ∧ w.ownsRow B 123 1 v j ((List.range j).map fun i => Value.int .i64 (arrI (tt i)))
theorem TimW.below {w w' : World} {g B j : Nat} {tt : Nat → Option Nat} (h : TimW w g B j tt) (hb : Below w.heap.size w w') : TimW w' g B j tt := by
 obtain ⟨v, h1, h2⟩ := h
 exact ⟨v, (hb.block g (lt_of_block h1)).trans h1, own_heap h2 fun k e => hb.block k (h2.lt k e).2⟩
theorem cell_beside {w w' : World} {b : Nat} (h : w'.heap[b]? = w.heap[b]?) (o : Nat) : w'.cell? ⟨b, o, none⟩ = w.cell? ⟨b, o, none⟩ := by simp [World.cell?, h]
theorem own_apart {w : World} {B B' : Nat} {t t' : TypeId} {v v' : Value} {n n' : Nat} {xs xs' : List Value} (h : w.ownsRow B t 1 v n xs) (h' : w.ownsRow B' t' 1 v' n' xs') (hn : t ≠ t') : ∀ k, v.ownBlock = some k → v'.ownBlock ≠ some k := by
 intro k hk hk'
 rcases h.2 with ⟨rfl, _⟩ | ⟨g, cap, cur, rfl, _, hg, _⟩
 ·cases hk
 ·rcases h'.2 with ⟨rfl, _⟩ | ⟨g', cap', cur', rfl, _, hg', _⟩
  ·cases hk'
  ·obtain rfl : g = k := Option.some.inj hk
   obtain rfl : g' = g := Option.some.inj hk'
   rw [hg] at hg'
   injection hg' with e
   injection e with _ e _
   exact hn e
theorem NumW.block {w w' : World} {B : Nat} {v : Value} {l : List Int} (h : NumW w B v l) (hs : w.heap.size ≤ w'.heap.size) (hb : ∀ k, v.ownBlock = some k → w'.heap[k]? = w.heap[k]?) : NumW w' B v l := ⟨own_heap h.1 hb, Nat.le_trans h.2 hs⟩
theorem own_at {w : World} {B : Nat} {t : TypeId} {v : Value} {n j : Nat} {xs : List Value} {x : Value} (h : w.ownsRow B t 1 v n xs) (hx : xs[j]? = some x) : ∃ tb cap, v = .slice (some ⟨tb, 0, none⟩) n cap ∧ w.cell? ⟨tb, j, none⟩ = some x ∧ B ≤ tb ∧ tb < w.heap.size ∧ ∃ cur, w.heap[tb]? = some (.cells cur t (0, 0)) ∧ n ≤ cap ∧ cap ≤ maxLen ∧ cur.size = cap ∧ cur.toList.take n = xs := by
 rcases h.2 with ⟨rfl, rfl⟩ | ⟨g, cap, cur, rfl, hb, hg, h1, h2, h3, h4⟩
 ·have := h.1; rw [Nat.zero_mul] at this
  rw [List.length_eq_zero_iff.1 this] at hx; cases hx
 ·refine ⟨g, cap, rfl, ?_, hb, lt_of_block hg, cur, hg, h1, h2, by omega, by rw [Nat.mul_one] at h4; exact h4⟩
  refine cell_at_heap hg ?_
  rw [← h4, List.getElem?_take] at hx
  split at hx
  ·simpa using hx
  ·cases hx
theorem arrival_info : (Tryz.prog.info? 123).map (fun i => (i.zero, i.size, i.bytes)) = some (some (.int .i64 0), 1, 8) := by kernel_rfl
theorem arr1_iter (mm lr b1 b2 b3 b4 bn : Nat) (hmm : 1 ≤ mm) (mb n : Nat) (rs : List RoadN) (A : Option Addr) (m c : Nat) (ys : List WaveR) (a : Nat) (now : Int) (J : Nat → (Nat → Prop) → World → Prop) (T0 : Nat → Prop) (W : World)
  (hlt : ∀ s T W', J s T W' → ∀ k, T k → k < W'.heap.size)
  (hst : ∀ s T W' W'', J s T W' → Keep (fun k => W.heap.size ≤ k ∧ ¬ T k) W' W'' → J s T W'')
  (hy : ∀ i T W' k, (lineN n rs (wavesD ys) a now)[i]? = some k → J i T W' → YieldAt Fence.wide (mm - 1) Tryz.prog lr #[.int .i64 (k : Int)] W' (fun e W'' =>
   e = .returned (.bool true) ∧ ∃ T', J (i + 1) T' W'' ∧ Keep T W' W'' ∧ ∀ k, T' k → T k ∨ W'.heap.size ≤ k))
  (h0 : J 0 T0 W) (c1 : W.cell? ⟨b1, 0, none⟩ = some (.slice A m c)) (c2 : W.cell? ⟨b2, 0, none⟩ = some (.pointer (some ⟨mb, 0, none⟩))) (c3 : W.cell? ⟨b3, 0, none⟩ = some (.int .i64 (a : Int)))
  (c4 : W.cell? ⟨b4, 0, none⟩ = some (.func (.func 103) #[] #[.pointer (some ⟨bn, 0, none⟩)])) (c5 : W.heap[bn]? = some (.cells #[.int .i64 now] 2 (0, 0)))
  (hb1 : b1 < W.heap.size) (hb2 : b2 < W.heap.size) (hb3 : b3 < W.heap.size) (hb4 : b4 < W.heap.size)
  (hmap : MapAt W mb n rs) (hys : IsWaves W A m c ys) (hone : ∀ y ∈ ys, oneE n y.d = 0) (han : a < n) (hm19 : m ≤ 19) :
  CallsIn Fence.wide mm Tryz.prog 140 #[.func (.yield lr) #[] #[], .pointer (some ⟨b1, 0, none⟩), .pointer (some ⟨b2, 0, none⟩), .pointer (some ⟨b3, 0, none⟩), .pointer (some ⟨b4, 0, none⟩)] W fun e W' =>
   (∃ v, e = .returned v) ∧ ∃ T, J (lineN n rs (wavesD ys) a now).length T W' := by
 have hT0 := hlt _ _ _ h0
 have hmx := hys.max
 have HLT := hI hlt; have HST := hI hst; have HY := hI hy; have H0 := hI h0
 have HM := hI hmap; have HYS := hI hys; have HONE := hI hone; have HT0 := hI hT0
 have C1 := hI c1; have C2 := hI c2; have C3 := hI c3; have C4 := hI c4; have C5 := hI c5
 have HLY : Hid ((wavesD ys).length = m) := by show _ = _; rw [wavesD, List.length_map]; exact hys.len
 obtain ⟨tt, htt⟩ : ∃ tt, tt = tAt n rs (wavesD ys) a := ⟨_, rfl⟩
 obtain ⟨P, hP⟩ : ∃ P : Nat → Bool, P = fun i => byNow now (tt i) := ⟨_, rfl⟩
 have HTT := hI htt; have HP := hI hP
 clear hlt hst hy h0 hmap hys hone hT0 c1 c2 c3 c4 c5 htt hP
 refine callsIn_of_wp Tryz.func140 rfl trivial ?_
 simp only [Tryz.ntmps140, List.size_toArray, List.length_cons, List.length_nil, Nat.reduceAdd, Nat.reduceSub, Array.replicate_succ, Array.replicate_zero, List.push_toArray, List.append_toArray, List.nil_append, List.cons_append]
 have k1 : (W.alloc (.cells #[.slice none 0 0] 192)).cell? ⟨b1, 0, none⟩ = some (.slice A m c) := by first | exact (cell_old_at hb1).trans C1.out | exact (Below.alloc (Below.refl _ W) rr _).cell (p := ⟨b1, 0, none⟩) hb1 |>.trans C1.out
 gi_wp2_with fail
 clear k1
 have hg0 : (W.alloc (.cells #[.slice none 0 0] 192)).heap[W.heap.size]? = some (.cells #[.slice none 0 0] 192 (0, 0)) := heap_new_at rfl
 have hB0 : Below W.heap.size W (W.alloc (.cells #[.slice none 0 0] 192)) := (Below.refl _ W).alloc rr _
 have hz0 : (W.alloc (.cells #[.slice none 0 0] 192)).heap.size = W.heap.size + 1 := by simp
 obtain ⟨g, hg⟩ : ∃ g, g = W.heap.size := ⟨_, rfl⟩
 rw [← hg] at hg0 ⊢
 obtain ⟨B, hB⟩ : ∃ B, B = (W.alloc (.cells #[.slice none 0 0] 192)).heap.size := ⟨_, rfl⟩
 have hgB : g < B := by omega
 have hWg : W.heap.size ≤ g := by omega
 have HN0 : Hid (NumW (W.alloc (.cells #[.slice none 0 0] 192)) B (.slice none 0 0) []) := NumW.nil (by omega)
 have HI0 : Hid (TimW (W.alloc (.cells #[.slice none 0 0] 192)) g B 0 tt) := ⟨_, hg0, World.ownsRow_nil _ _ _ _⟩
 have HB0 := hI hB0
 generalize (W.alloc (.cells #[.slice none 0 0] 192)) = W0 at *
 have hg0' : g ≤ W.heap.size := by omega
 clear hg0 hB0 hz0 hg hB
 gi_loopw [7, 14] (fun s7 i wr => ∃ j : Nat, j ≤ m ∧ i = .int .i64 (j : Int) ∧ Hid (NumW wr B s7 (((List.range j).filter P).map fun (a : Nat) => (a : Int))) ∧ Hid (TimW wr g B j tt) ∧ Hid (Below W.heap.size W wr) ∧ Hid ((List.range j).filter P = [] → s7 = .slice none 0 0)) (fun _ i _ => m - (intOf i).toNat)
 case atStart => exact ⟨0, Nat.zero_le _, rfl, HN0.out, HI0.out, HB0.out, fun _ => rfl⟩
 case round =>
  obtain ⟨j, hj, rfl, HN, HI, HB, HE⟩ := hrel
  clear HN0 HI0 HB0
  by_cases hlt : j < m
  ·have hjm : (j : Int) < (m : Int) := by omega
   obtain ⟨x, hx⟩ := (HYS.out.below HB.out).get hlt
   obtain ⟨yb, yo, hA, hyb, hat, k0, k1, k2, k3, k4⟩ := (HYS.out.below HB.out).at_ hx
   subst hA
   have hxd : (wavesD ys)[j]? = some x.d := by rw [wavesD, List.getElem?_map, hx]; rfl
   have HTA : Hid (tt j = arrM n rs x.d a) := by show _ = _; rw [HTT.out]; unfold tAt; rw [hxd]; rfl
   have H1 : Hid (oneE n x.d = 0) := HONE.out x (List.mem_of_getElem? hx)
   have HAT := hI hat
   clear hx hxd hat
   obtain ⟨⟨law, ps, T, S, fin⟩, Aw, nw, cw⟩ := x
   simp only at k0 k1 k2 k3 k4
   gi_wp2_with fail
   clear k0 k1 k2 k3 k4
   have kx : (wr.alloc (.cells #[.int .i64 law, .slice Aw nw cw, .int .i64 T, .int .i64 S, .int .i64 fin] 38)).heap[wr.heap.size]? = some (.cells #[.int .i64 law, .slice Aw nw cw, .int .i64 T, .int .i64 S, .int .i64 fin] 38 (0, 0)) := heap_new_at rfl
   have kb : Below wr.heap.size wr (wr.alloc (.cells #[.int .i64 law, .slice Aw nw cw, .int .i64 T, .int .i64 S, .int .i64 fin] 38)) := (Below.refl _ wr).alloc rr _
   obtain ⟨X, hX⟩ : ∃ X, X = wr.heap.size := ⟨_, rfl⟩
   have hXr : wr.heap.size ≤ X := by omega
   rw [← hX] at kx ⊢
   clear hX
   generalize wr.alloc (.cells #[.int .i64 law, .slice Aw nw cw, .int .i64 T, .int .i64 S, .int .i64 fin] 38) = V at *
   have hBV : Below W.heap.size W V := HB.out.trans (kb.mono HB.out.size)
   have hBr := HN.out.2
   obtain ⟨vt, hvt0, hot0⟩ := HI.out
   have HAP := hI (own_apart HN.out.1 hot0 (by decide))
   have HLV := hI hot0.lt
   have hvt := (kb.block g (lt_of_block hvt0)).trans hvt0
   have hot := own_heap hot0 fun k e => kb.block k (hot0.lt k e).2
   have hgr0 := lt_of_block hvt0
   clear hvt0 hot0
   have k0 := cell_of_one hvt
   have k1 := cell_at_heap (j := 0) kx rfl
   have k2 := cell_at_heap (j := 1) kx rfl
   have k3 := cell_at_heap (j := 2) kx rfl
   have k4 := cell_at_heap (j := 3) kx rfl
   have k5 := cell_at_heap (j := 4) kx rfl
   have k6 := (hBV.cell (p := ⟨b2, 0, none⟩) hb2).trans C2.out
   have k7 := (hBV.cell (p := ⟨b3, 0, none⟩) hb3).trans C3.out
   have HSS : Hid (∀ W' : World, (∀ k, k < V.heap.size → vt.ownBlock ≠ some k → W'.heap[k]? = V.heap[k]?) → W'.cell? ⟨g, 0, none⟩ = some vt ∧ W'.cell? ⟨X, 0, none⟩ = some (.int .i64 law) ∧ W'.cell? ⟨X, 1, none⟩ = some (.slice Aw nw cw) ∧ W'.cell? ⟨X, 2, none⟩ = some (.int .i64 T) ∧ W'.cell? ⟨X, 3, none⟩ = some (.int .i64 S) ∧ W'.cell? ⟨X, 4, none⟩ = some (.int .i64 fin) ∧ W'.cell? ⟨b2, 0, none⟩ = some (.pointer (some ⟨mb, 0, none⟩)) ∧ W'.cell? ⟨b3, 0, none⟩ = some (.int .i64 (a : Int))) := by
    intro W' hk
    have hne : ∀ k, k < B ∨ wr.heap.size ≤ k → vt.ownBlock ≠ some k := fun k h e => by have := HLV.out k e; omega
    have hx' := (hk X (lt_of_block kx) (hne X (.inr hXr))).trans kx
    exact ⟨cell_of_one ((hk g (lt_of_block hvt) (hne g (.inl hgB))).trans hvt), cell_at_heap (j := 0) hx' rfl, cell_at_heap (j := 1) hx' rfl, cell_at_heap (j := 2) hx' rfl, cell_at_heap (j := 3) hx' rfl, cell_at_heap (j := 4) hx' rfl,
     (cell_beside (hk b2 (by have := hBV.size; omega) (hne b2 (.inl (by omega)))) 0).trans k6, (cell_beside (hk b3 (by have := hBV.size; omega) (hne b3 (.inl (by omega)))) 0).trans k7⟩
   have HVT := hI hvt; have HOT := hI hot; have KX := hI kx; have KB := hI kb; have HBV := hI hBV
   have hsV := kb.size
   clear hvt hot kx kb hBV
   refine wide_region (fun W' => W'.cell? ⟨g, 0, none⟩ = some vt ∧ W'.cell? ⟨X, 0, none⟩ = some (.int .i64 law) ∧ W'.cell? ⟨X, 1, none⟩ = some (.slice Aw nw cw) ∧ W'.cell? ⟨X, 2, none⟩ = some (.int .i64 T) ∧ W'.cell? ⟨X, 3, none⟩ = some (.int .i64 S) ∧ W'.cell? ⟨X, 4, none⟩ = some (.int .i64 fin) ∧ W'.cell? ⟨b2, 0, none⟩ = some (.pointer (some ⟨mb, 0, none⟩)) ∧ W'.cell? ⟨b3, 0, none⟩ = some (.int .i64 (a : Int))) (by kernel_rfl) ⟨k0, k1, k2, k3, k4, k5, k6, k7⟩ (fun hHeld => ?_)
   clear k0 k1 k2 k3 k4 k5 k6 k7
   (refine' anyT_tk 0 rfl ?_; (try simp only [Act.put, nY, nX])); (refine' anyT_tk 1 rfl ?_; (try simp only [Act.put, nY, nX])); (refine' anyT_tk 2 rfl ?_; (try simp only [Act.put, nY, nX])); (refine' anyT_tk 3 rfl ?_; (try simp only [Act.put, nY, nX]))
   clear hHeld
   (refine anyT_sp 4 rfl (fun K' hK' => ?_); simp only [nY]; go_simp)
   have hbd : Below V.heap.size V V.drew := (Below.refl _ _).drew
   have HBT := HBV.out.trans (hbd.mono HBV.out.size)
   refine (at_c mb n rs ⟨⟨law, ps, T, S, fin⟩, Aw, nw, cw⟩ a V.drew (HM.out.below HBT) ((HAT.out.below KB.out).below hbd) H1.out han).mono ?_
   obtain ⟨t, ht⟩ : ∃ t, t = arrI (arrM n rs ⟨law, ps, T, S, fin⟩ a) := ⟨_, rfl⟩
   have HTV : Hid (arrI (tt j) = t) := by show _ = _; rw [HTA.out, ht]
   rw [← ht]
   rintro e w1 ⟨rfl, hb1'⟩
   have HB1 := hI (hbd.trans hb1')
   refine hK' _ _ ⟨.inr (HSS.out w1 fun k h _ => HB1.out.block k h), fun _ => ?_⟩
   clear hK' K' hb1' hbd HBT ht HTA H1 HAT
   (try simp only [Act.put, nY, nX])
   (refine anyT_sp 5 rfl (fun K' hK' => ?_); simp only [nY]; go_simp)
   have z1 : (w1.alloc (.cells #[.int .i64 t] 123)).heap[w1.heap.size]? = some (.cells #[.int .i64 t] 123 (0, 0)) := heap_new_at rfl
   have hB2 : Below V.heap.size V (w1.alloc (.cells #[.int .i64 t] 123)) := HB1.out.alloc HB1.out.size _
   have o7 : (w1.alloc (.cells #[.int .i64 t] 123)).ownsRow B 123 1 vt j _ := own_heap HOT.out fun k e => hB2.block k (HOT.out.lt k e).2
   have hw1s := HB1.out.size
   refine hK' _ _ ⟨.inr (HSS.out _ fun k h _ => hB2.block k h), fun _ => ?_⟩
   clear hK' K'
   (try simp only [Act.put, nY, nX])
   refine anyT_sp 6 rfl (fun K' hK' => ?_)
   rw [if_pos (by rfl)]
   refine wp_append_own_at (.tmp 19) (.tmp 24) 192 rfl B 123 (.int .i64 0) 1 8 Tryz.underlying192 arrival_info rfl (by decide) vt j ((List.range j).map fun i => Value.int .i64 (arrI (tt i))) (by rfl) o7 ⟨w1.heap.size, 0, none⟩ 1 1 [.int .i64 t] (by rfl) rfl (one_cells z1) (by intro u hu; simp at hu; subst hu; rfl) (by unfold maxLen; omega) (by omega) (by simp; omega) ?_
   intro vt' X2 hown hgr _ hat
   have hS7 := HSS.out X2 fun k h1 h2 => (hgr.block k (by have := hB2.size; omega) (fun e => h2 e.symm)).trans (hB2.block k h1)
   have f7 : X2.frozen? ⟨g, 0, none⟩ = false := free_of_one (((hgr.block g (by have := hB2.size; have := lt_of_block HVT.out; omega) (fun e => by have := HLV.out g e.symm; omega)).trans (hB2.block g (lt_of_block HVT.out))).trans HVT.out)
   have x7 := ((hgr.block g (by have := hB2.size; have := lt_of_block HVT.out; omega) (fun e => by have := HLV.out g e.symm; omega)).trans (hB2.block g (lt_of_block HVT.out))).trans HVT.out
   obtain ⟨At, kt, rfl⟩ := own_form hown
   have c7 := cell_of_one x7
   refine hK' _ _ ⟨.inr hS7, fun _ => ?_⟩
   clear hK' K'
   have HI5 : Hid (TimW (X2.setCell ⟨g, 0, none⟩ (.slice At (j + 1) kt)) g B (j + 1) tt) := by
    refine ⟨_, one_setCell x7, ?_⟩
    rw [List.range_succ, List.map_append]
    show World.ownsRow _ _ _ _ _ _ (List.map (fun i => Value.int .i64 (arrI (tt i))) (List.range j) ++ [.int .i64 (arrI (tt j))])
    rw [HTV.out]
    exact ownsRow_setCell_other hown (fun e => by have := (hown.lt _ e).1; simp at this; omega) _
   have HN5 : Hid (NumW (X2.setCell ⟨g, 0, none⟩ (.slice At (j + 1) kt)) B u7 (((List.range j).filter P).map fun (a : Nat) => (a : Int))) := by
    refine NumW.block HN.out (by have := hgr.size; have := hB2.size; simp at *; omega) fun k e => ?_
    have hkr := (HN.out.1.lt k e)
    have hkV : k < V.heap.size := by omega
    exact (Below.heap_setCell _ _ _ _ (by show k ≠ g; omega)).trans (((hgr.block k (by have := hB2.size; omega) (fun e' => HAP.out k e e'.symm)).trans (hB2.block k hkV)).trans (KB.out.block k hkr.2))
   have HB5 : Hid (Below W.heap.size W (X2.setCell ⟨g, 0, none⟩ (.slice At (j + 1) kt))) :=
    ((HBV.out.trans (hB2.mono HBV.out.size)).grown hgr (by have := hB2.size; have := HBV.out.size; omega) fun k e => by have := (HLV.out k e).1; omega).setCell (p := ⟨g, 0, none⟩) (by show W.heap.size ≤ g; omega) _
   clear hown hgr hat hS7 x7 o7 z1 hB2 HSS HN HI HB HAP HLV HBV HVT HOT KX KB HB1
   (try simp only [Act.put, nY, nX])
   (refine anyT_sp 7 rfl (fun K' hK' => ?_); simp only [nY]; go_simp)
   refine hK' _ _ ⟨.inl (by kernel_rfl), fun _ => anyT_done (by kernel_rfl) ?_ _⟩
   clear hK' K' f7 c7
   generalize X2.setCell ⟨g, 0, none⟩ (.slice At (j + 1) kt) = Y at *
   gi_wp2
   obtain ⟨v5, hv5, ho5⟩ := HI5.out
   obtain ⟨tb, ct, rfl, ct5, htB, htY, cur5, hcur5, hjc5, -⟩ := own_at ho5 (j := j) (x := .int .i64 (arrI (tt j))) (by rw [List.getElem?_map, List.getElem?_range (by omega)]; rfl)
   have kg := cell_of_one hv5
   have k4 := (HB5.out.cell (p := ⟨b4, 0, none⟩) hb4).trans C4.out
   have KN := hI ((HB5.out.block bn (lt_of_block C5.out)).trans C5.out)
   have hjj : (j : Int) < ((j : Int) + 1) := by omega
   clear hv5 ho5 hcur5
   obtain ⟨o, ho⟩ : ∃ o, o = tt j := ⟨_, rfl⟩
   rw [← ho] at ct5
   have HOO := hI ho
   clear ho
   have HL1 := hI fun w => line1_c o now bn w
   have HPJ : Hid (P j = byNow now o) := by show _ = _; rw [HP.out, HOO.out]
   obtain ⟨ar, har⟩ : ∃ ar, ar = arrI o := ⟨_, rfl⟩
   rw [← har] at ct5 HL1
   obtain ⟨pj, hpj⟩ : ∃ pj, pj = byNow now o := ⟨_, rfl⟩
   rw [← hpj] at HL1 HPJ
   clear har hpj
   refine wide_region (fun W' => W'.cell? ⟨b4, 0, none⟩ = some (.func (.func 103) #[] #[.pointer (some ⟨bn, 0, none⟩)]) ∧ W'.cell? ⟨g, 0, none⟩ = some (.slice (some ⟨tb, 0, none⟩) (j + 1) ct) ∧ W'.cell? ⟨tb, j, none⟩ = some (.int .i64 ar)) (by kernel_rfl) ⟨k4, kg, ct5⟩ (fun hHeld => ?_)
   clear k4 kg ct5
   (refine' anyT_tk 0 rfl ?_; (try simp only [Act.put, nY, nX])); (refine' anyT_tk 1 rfl ?_; (try simp only [Act.put, nY, nX])); (refine' anyT_tk 2 rfl ?_; (try simp only [Act.put, nY, nX])); (refine' anyT_tk 3 rfl ?_; (try simp only [Act.put, nY, nX])); (refine' anyT_tk 4 rfl ?_; (try simp only [Act.put, nY, nX]))
   (refine anyT_sp 5 rfl (fun K' hK' => ?_); simp only [nY]; go_simp)
   refine (HL1.out Y.drew KN.out).mono ?_
   rintro e w5 ⟨rfl, rfl⟩
   refine hK' _ _ ⟨.inl (by kernel_rfl), fun _ => anyT_done (by kernel_rfl) ?_ _⟩
   clear hK' K' hHeld
   have hbd : Below Y.heap.size Y Y.drew := (Below.refl _ _).drew
   have HN6 := hI (HN5.out.below hbd)
   have HI6 := hI (HI5.out.below hbd)
   have HB6 := hI (HB5.out.trans (hbd.mono HB5.out.size))
   have HFI : Hid ((List.range (j + 1)).filter P = (List.range j).filter P ++ (if P j = true then [j] else [])) := by
    show _ = _; rw [List.range_succ, List.filter_append]; congr 1
    by_cases h : P j = true
    ·rw [if_pos h, List.filter_cons_of_pos h]; rfl
    ·rw [if_neg h, List.filter_cons_of_neg h]; rfl
   clear hbd HN5 HI5 HB5 KN HL1 HOO htY
   generalize Y.drew = Z at *
   cases pj with
   | false =>
    gi_wp2
    go_roundw
    case rel => exact ⟨j + 1, by omega, by simp, by show NumW _ _ _ _; rw [HFI.out, HPJ.out]; simpa using HN6.out, HI6.out, HB6.out, fun h => HE.out (by rw [HFI.out, HPJ.out] at h; simpa using h)⟩
    case measure => simp [intOf]; omega
   | true =>
    obtain ⟨A8, c8, hv8⟩ := HN6.out.form
    subst hv8
    obtain ⟨L, hL⟩ : ∃ L, L = ((List.range j).filter P).map fun (a : Nat) => (a : Int) := ⟨_, rfl⟩
    have hll : L.length ≤ j := by rw [hL, List.length_map]; exact Nat.le_trans (List.length_filter_le _ _) (by simp)
    rw [← hL] at HN6 ⊢
    have HL := hI hL
    clear hL
    have hbz : Below Z.heap.size Z (Z.alloc (.cells #[.int .i64 (j : Int)] 3)) := (Below.refl _ Z).alloc rr _
    have HNa := hI (HN6.out.below hbz)
    have HIa := hI (HI6.out.below hbz)
    have hBa := HNa.out.2
    have HBa : Hid (Below W.heap.size W (Z.alloc (.cells #[.int .i64 (j : Int)] 3))) := HB6.out.trans (hbz.mono HB6.out.size)
    have HAP := hI (fun k (hk : (Value.slice A8 L.length c8).ownBlock = some k) => (HNa.out.1.lt k hk))
    obtain ⟨vz, hvz, hoz⟩ := HIa.out
    have HAQ := hI (own_apart hoz HNa.out.1 (by decide))
    have HVZ := hI hvz; have HOZ := hI hoz
    clear hbz hvz hoz
    gi_wp2_with (gi_at_builtin; refine wpListIn_append_at rfl (.tmp 32) (.tmp 34) 36 rfl B 3 (.int .i64 0) 1 8 Tryz.underlying36 int_info rfl (by decide) (.slice A8 L.length c8) L.length (L.map (Value.int .i64)) rfl HNa.out.1 ⟨Z.heap.size, 0, none⟩ 1 1 [.int .i64 (j : Int)] rfl rfl (cell_one_new _ _ _) (by simp [Value.oneCell']) (by unfold maxLen; omega) (by omega) hBa ?hc)
    case hc =>
     intro v' w4 hown hg _
     have HN7 := hI (HNa.out.push hown hg)
     have HB7 : Hid (Below W.heap.size W w4) := HNa.out.grow HBa.out (by omega) hg
     have HI7 : Hid (TimW w4 g B (j + 1) tt) := ⟨vz, (hg.block g (lt_of_block HVZ.out) (fun e => by have := (HAP.out g e.symm).1; omega)).trans HVZ.out, own_heap HOZ.out fun k e => hg.block k (HOZ.out.lt k e).2 (fun e' => HAQ.out k e e'.symm)⟩
     clear hown hg
     gi_wp2
     go_roundw
     case rel => exact ⟨j + 1, by omega, by simp, by show NumW _ _ _ _; rw [HFI.out, HPJ.out, if_pos rfl, List.map_append, ← HL.out]; exact HN7.out, HI7.out, HB7.out, fun h => by rw [HFI.out, HPJ.out] at h; simp at h⟩
     case measure => simp [intOf]; omega
  ·obtain rfl : j = m := by omega
   obtain ⟨op, hop⟩ : ∃ op, op = (List.range j).filter P := ⟨_, rfl⟩
   obtain ⟨LL, hLL⟩ : ∃ LL, LL = lineN n rs (wavesD ys) a now := ⟨_, rfl⟩
   have hLL' : LL = byRank (waveLt tt) P j := by rw [hLL, HTT.out, HP.out, HTT.out, ← HLY.out]; rfl
   have HLL : Hid (LL.length = op.length) := by show _ = _; rw [hLL', rank_len (wave_strict tt), hop]
   have hmx' : ∀ i x, tt i = some x → x < 9223372036854775807 := fun i x hx => by
    rw [HTT.out] at hx
    obtain ⟨y, hy, hz⟩ := tAt_some hx
    obtain ⟨y', hy', rfl⟩ := List.mem_map.1 (List.mem_of_getElem? hy)
    have h1 := (arrive_lt hz).2.1
    have h2 := (HYS.out.2 y' hy').u.fin.2
    omega
   rw [← hop] at HN HE
   rw [← hLL] at HY
   have HLN := hI hLL
   by_cases he : op = []
   ·have hu := HE.out he
    subst hu
    have HL0 : Hid (LL.length = 0) := by show _ = _; rw [HLL.out, he]; rfl
    have HS0 := hI (stable0_c g _ rfl)
    clear HE HN HI hLL hLL' HLL he hop hmx'
    gi_wp2
    refine ⟨trivial, ?_⟩
    refine (callsIn_wide.2 (HS0.out wr)).mono ?_
    rintro e w1 ⟨rfl, rfl⟩
    gi_wp2
    gi_loopw [42] (fun i wq => i = .int .i64 0 ∧ wq = w1) (fun _ _ => 0)
    case atStart => exact ⟨rfl, rfl⟩
    case round =>
     obtain ⟨rfl, rfl⟩ := hrel
     gi_wp2
     go_end0
     exact ⟨⟨_, rfl⟩, T0, by rw [← HLN.out, HL0.out]; exact HST.out _ _ _ _ H0.out (keep_of_below HB.out)⟩
   ·have hm0 : 0 < j := by
     rcases Nat.eq_zero_or_pos j with e | e
     ·subst e; exact absurd hop (by simpa using he)
     ·exact e
    obtain ⟨v0, hv0⟩ : ∃ v0 : Value, v0 = .int .i64 ((op[0]'(List.length_pos_iff.2 he) : Nat) : Int) := ⟨_, rfl⟩
    obtain ⟨gf, cf, hu, -, hfB, hfs, -⟩ := own_at HN.out.1 (j := 0) (x := v0) (by rw [List.getElem?_map, List.getElem?_map, List.getElem?_eq_getElem (List.length_pos_iff.2 he), hv0]; rfl)
    subst hu
    have hlm : (op.map fun (a : Nat) => (a : Int)).length = op.length := List.length_map _
    have hOP : OpRow wr B gf cf op := by have := HN.out.1; rw [List.map_map, hlm] at this; exact this
    rw [hlm] at HN ⊢
    obtain ⟨vt, hvt, hot⟩ := HI.out
    obtain ⟨tb, ct, rfl, -, htB, hts, cur, hcur, hjc, hcm, hcs, hck⟩ := own_at hot (j := 0) (x := .int .i64 (arrI (tt 0))) (by rw [List.getElem?_map, List.getElem?_range hm0]; rfl)
    have hTI : TimesAt wr g tb j tt := ⟨ct, hvt, cur, hcur, fun k hk => by
     have h1 := congrArg (fun l : List Value => l[k]?) hck
     simp only [List.getElem?_take, if_pos hk, List.getElem?_map, List.getElem?_range hk, Option.map_some] at h1
     simpa using h1⟩
    have hne : tb ≠ gf := fun e => by
     have := own_apart HN.out.1 hot (by decide) gf rfl
     exact this (by rw [e]; rfl)
    have HSS := hI (stable_c op B gf cf j g tb tt P hop hmx' hm0 hm19 wr hOP hTI (by omega) hne)
    rw [← hLL'] at HSS
    have hBs := HB.out.size
    clear hv0 hlm hOP hvt hot hcur hjc hcm hcs hck hTI hne hLL' hop hmx' HE HN HI he hts
    gi_wp2
    refine ⟨trivial, ?_⟩
    refine (callsIn_wide.2 HSS.out).mono ?_
    rintro e w1 ⟨rfl, h1, h2, h3⟩
    have hlen : LL.length = op.length := h2
    rw [← hlen]
    have HB1 : Hid (Below W.heap.size W w1) := HB.out.trans (h3.to_below (fun k hk => by omega) hBs)
    have HJ1 : Hid (J 0 T0 w1) := HST.out _ _ _ _ H0.out (keep_of_below HB1.out)
    have HO1 := hI h1
    have hgf1 : gf < w1.heap.size := Nat.lt_of_lt_of_le hfs h3.size
    have hTg : Hid (¬ T0 gf) := fun h => by have := HT0.out _ h; omega
    have hll20 : LL.length ≤ 19 := by
     have h1 := rank_len (wave_strict (tAt n rs (wavesD ys) a)) (fun i => byNow now (tAt n rs (wavesD ys) a i)) (wavesD ys).length
     have h2 := List.length_filter_le (fun i => byNow now (tAt n rs (wavesD ys) a i)) (List.range (wavesD ys).length)
     rw [List.length_range, HLY.out] at h2
     rw [HLN.out]; unfold lineN; rw [h1, HLY.out]; omega
    clear h1 h2 h3 HB HLL hlen HSS hLL
    gi_wp2
    gi_loopw [11, 42] (fun _ i wr => ∃ (k : Nat) (T : Nat → Prop), i = .int .i64 (k : Int) ∧ k ≤ LL.length ∧ Hid (J k T wr) ∧ Hid (OpRow wr B gf cf LL) ∧ Hid (¬ T gf)) (fun _ i _ => LL.length - (intOf i).toNat)
    case atStart => exact ⟨0, T0, rfl, Nat.zero_le _, HJ1.out, HO1.out, hTg.out⟩
    case round =>
     obtain ⟨k, T, rfl, hk, HJ, HO, HT⟩ := hrel
     clear HB1 HJ1 HO1 hTg
     by_cases hkl : k < LL.length
     ·have hkl' : (k : Int) < (LL.length : Int) := by omega
      obtain ⟨_, _, _, cur, hg, hcs, ht⟩ := HO.out.block
      have hx : LL[k]? = some (LL[k]'hkl) := List.getElem?_eq_getElem hkl
      obtain ⟨x, hxe⟩ : ∃ x, x = LL[k]'hkl := ⟨_, rfl⟩
      rw [← hxe] at hx
      have cx : wr.cell? ⟨gf, k, none⟩ = some (.int .i64 (x : Int)) := cell_at_heap hg (take_get ht k x hx)
      have hgs := lt_of_block hg
      obtain ⟨fn, tmps, assign, body, hyr, hR⟩ := HY.out k T wr x hx HJ.out
      have HR := hI hR
      clear hR hxe hx hg hcs ht
      gi_wp2
      refine HR.out.mono ?_
      rintro e W3 ⟨rfl, T', hJ', hKp, hT'⟩
      have HJ3 := hI hJ'
      have HO3 := hI (HO.out.heap (hKp.block gf hgs HT.out))
      have HT3 : Hid (¬ T' gf) := fun h => (hT' _ h).elim HT.out (by omega)
      clear hJ' hKp hT'
      gi_wp2
      go_roundw
      case rel => exact ⟨k + 1, T', by go_num, by omega, HJ3.out, HO3.out, HT3.out⟩
      case measure => simp [intOf]; omega
     ·obtain rfl : k = LL.length := by omega
      gi_wp2
      go_end0
      exact ⟨⟨_, rfl⟩, T, by rw [← HLN.out]; exact HJ.out⟩
end Go.Proofs.YtaglfmlgbcmakaaGreatDoor
namespace Go.Proofs.YtaglfmlgbcmakaaGreatDoor
open Go.RowKit Go.Shelf
attribute [local go_sem] Oper.semAt_some
structure ArrC (W : World) (b1 b2 b3 b4 : Nat) (A : Option Addr) (m c mb : Nat) (a : Int) (fv : Value) : Prop where
 c1 : W.heap[b1]? = some (.cells #[.slice A m c] 27 (0, 0))
 c2 : W.heap[b2]? = some (.cells #[.pointer (some ⟨mb, 0, none⟩)] 29 (0, 0))
 c3 : W.heap[b3]? = some (.cells #[.int .i64 a] 3 (0, 0))
 c4 : W.heap[b4]? = some (.cells #[fv] 161 (0, 0))
theorem ArrC.keep {W W' : World} {b1 b2 b3 b4 : Nat} {A : Option Addr} {m c mb : Nat} {a : Int} {fv : Value} (h : ArrC W b1 b2 b3 b4 A m c mb a fv) (hk : Keep (fun _ => False) W W') : ArrC W' b1 b2 b3 b4 A m c mb a fv :=
 ⟨(hk.block _ (lt_of_block h.c1) (fun h => h)).trans h.c1, (hk.block _ (lt_of_block h.c2) (fun h => h)).trans h.c2, (hk.block _ (lt_of_block h.c3) (fun h => h)).trans h.c3, (hk.block _ (lt_of_block h.c4) (fun h => h)).trans h.c4⟩
theorem arrived_c (mb : Nat) (A : Option Addr) (m c : Nat) (a : Int) (bn : Nat) (w : World) :
  Calls Tryz.prog 102 #[.pointer (some ⟨mb, 0, none⟩), .slice A m c, .int .i64 a, .func (.func 103) #[] #[.pointer (some ⟨bn, 0, none⟩)]] w fun e w' =>
   ∃ b1 b2 b3 b4, e = .returned (.func (.func 140) #[] #[.pointer (some ⟨b1, 0, none⟩), .pointer (some ⟨b2, 0, none⟩), .pointer (some ⟨b3, 0, none⟩), .pointer (some ⟨b4, 0, none⟩)]) ∧ ArrC w' b1 b2 b3 b4 A m c mb a (.func (.func 103) #[] #[.pointer (some ⟨bn, 0, none⟩)]) ∧ Below w.heap.size w w' := by
 go_enter Tryz.func102, Tryz.ntmps102
 go_wp2_with fail
 go_ret
 refine ⟨_, _, _, _, rfl, ⟨hpt, hpt, hpt, hpt⟩, bel⟩
structure LinW (bo lr : Nat) (rc : LoopState → Option Code → Loop) (W1 : World) (st : LoopState) (l : List Int) (T : Nat → Prop) (v : Value) (W : World) : Prop where
 tw : ∀ b, T b ↔ b = bo ∨ b = lr ∨ v.ownBlock = some b
 lt : bo < W1.heap.size ∧ lr < W1.heap.size ∧ bo ≠ lr
 out : W.heap[bo]? = some (.cells #[v] 36 (0, 0))
 own : NumW W W1.heap.size v l
 kp : Keep (fun b => b = bo ∨ b = lr) W1 W
 lp : W.heap[lr]? = some (.loop (rc st none))
section
variable {bo lr : Nat} {rc : LoopState → Option Code → Loop} {W1 : World} {st : LoopState} {l : List Int} {T : Nat → Prop} {v : Value} {W W' : World}
theorem LinW.keep (h : LinW bo lr rc W1 st l T v W) (hk : Keep (fun b => W1.heap.size ≤ b ∧ ¬ T b) W W') : LinW bo lr rc W1 st l T v W' := by
 obtain ⟨h1, h2, h3, h4, h5, h6⟩ := h
 have ho : ∀ b, b < W1.heap.size → W'.heap[b]? = W.heap[b]? := fun b hb => hk.block b (by have := h5.size; omega) (fun h => by omega)
 exact ⟨h1, h2, (ho _ h2.1).trans h3, h4.block hk.size fun k e => hk.block k (h4.1.lt k e).2 (fun h => h.2 ((h1 k).2 (.inr (.inr e)))), ((h5.mono (S' := fun b => (b = bo ∨ b = lr) ∨ W1.heap.size ≤ b) fun _ e => .inl e).trans (hk.mono fun _ e => .inr e.1)).old fun b hb e => e.resolve_right (by omega), (ho _ h2.2.1).trans h6⟩
theorem LinW.lts (h : LinW bo lr rc W1 st l T v W) : ∀ b, T b → b < W.heap.size := by
 intro b hb
 rcases (h.tw b).1 hb with rfl | rfl | e
 ·exact lt_of_block h.out
 ·exact lt_of_block h.lp
 ·exact (h.own.1.lt b e).2
theorem LinW.put (h : LinW bo lr rc W1 st l T v W) (st' : LoopState) : LinW bo lr rc W1 st' l T v (W.putObj lr (.loop (rc st' none))) := by
 obtain ⟨h1, h2, h3, h4, h5, h6⟩ := h
 exact ⟨h1, h2, (World.putObj_heap_other h2.2.2).trans h3, h4.block (by simp) fun k e => World.putObj_heap_other (by have := (h4.1.lt k e).1; omega), h5.putObj (by simp) _, World.putObj_heap_same (lt_of_block h6)⟩
end
end Go.Proofs.YtaglfmlgbcmakaaGreatDoor
namespace Go.Proofs.YtaglfmlgbcmakaaGreatDoor
open Go.RowKit Go.Shelf
attribute [local go_sem] Oper.semAt_some
theorem line_c (mb n : Nat) (rs : List RoadN) (A : Option Addr) (m c : Nat) (ys : List WaveR) (a : Nat) (now : Int) (w : World) (hmap : MapAt w mb n rs) (hys : IsWaves w A m c ys) (hone : ∀ y ∈ ys, oneE n y.d = 0) (han : a < n) (hm19 : m ≤ 19) :
  Calls Tryz.prog 59 #[.pointer (some ⟨mb, 0, none⟩), .slice A m c, .int .i64 (a : Int), .int .i64 now] w fun e w' =>
   ∃ A' c', e = .returned (.slice A' (lineL n rs (wavesD ys) a now).length c') ∧ IsInts w' A' (lineL n rs (wavesD ys) a now).length c' (lineL n rs (wavesD ys) a now) ∧ Below w.heap.size w w' := by
 have HM := hI hmap; have HYS := hI hys; have HONE := hI hone
 have hmc := hys.max
 clear hmap hys hone
 refine (callsIn_wide (n := 9)).1 (callsIn_of_wp_marks Tryz.func59 rfl trivial ?_ rfl)
 simp only [Tryz.ntmps59, List.size_toArray, List.length_cons, List.length_nil, Nat.reduceAdd, Nat.reduceSub, Array.replicate_succ, Array.replicate_zero, List.push_toArray, List.append_toArray, List.nil_append, List.cons_append]
 gi_wp2
 refine ⟨trivial, ?_⟩
 have k5 : (((w.alloc (.cells #[.slice A m c] 27)).alloc (.cells #[.int .i64 now] 2)).alloc (.cells #[.slice none 0 0] 36)).heap[w.heap.size]? = some (.cells #[.slice A m c] 27 (0, 0)) := hpt
 have k7 : (((w.alloc (.cells #[.slice A m c] 27)).alloc (.cells #[.int .i64 now] 2)).alloc (.cells #[.slice none 0 0] 36)).heap[w.heap.size + 1]? = some (.cells #[.int .i64 now] 2 (0, 0)) := hpt
 have k9 : (((w.alloc (.cells #[.slice A m c] 27)).alloc (.cells #[.int .i64 now] 2)).alloc (.cells #[.slice none 0 0] 36)).heap[w.heap.size + 1 + 1]? = some (.cells #[.slice none 0 0] 36 (0, 0)) := hpt
 have kB : Below w.heap.size w (((w.alloc (.cells #[.slice A m c] 27)).alloc (.cells #[.int .i64 now] 2)).alloc (.cells #[.slice none 0 0] 36)) := bel
 generalize (((w.alloc (.cells #[.slice A m c] 27)).alloc (.cells #[.int .i64 now] 2)).alloc (.cells #[.slice none 0 0] 36)) = V0 at *
 obtain ⟨bl, hbl⟩ : ∃ x, x = w.heap.size := ⟨_, rfl⟩
 obtain ⟨bo, hbo⟩ : ∃ x, x = w.heap.size + 1 + 1 := ⟨_, rfl⟩
 obtain ⟨bn, hbn⟩ : ∃ x, x = w.heap.size + 1 := ⟨_, rfl⟩
 rw [← hbl] at k5; rw [← hbn] at k7; rw [← hbo] at k9
 rw [← hbo, ← hbn, ← hbl]
 have hbw : w.heap.size ≤ bl ∧ bl < bn ∧ bn < bo := by omega
 have K5 := hI k5; have K7 := hI k7; have K9 := hI k9; have KB := hI kB
 clear hbl hbo hbn k5 k7 k9 kB
 refine (callsIn_wide.2 (arrived_c mb A m c a bn V0)).mono ?_
 rintro e w2 ⟨b1, b2, b3, b4, rfl, hc, hb2⟩
 have HC := hI hc; have HB2 := hI hb2
 clear hc hb2
 gi_wp2
 refine wide_range (gf := 140) (lb := #[.pointer (some ⟨b1, 0, none⟩), .pointer (some ⟨b2, 0, none⟩), .pointer (some ⟨b3, 0, none⟩), .pointer (some ⟨b4, 0, none⟩)]) rfl (enters_of Tryz.func140 (by kernel_rfl) rfl) fun fn D l rc W1 hrc hD hl hK2 hD1 hl1 hs2 => ?_
 have HRC := hI hrc; clear hrc
 have hDw : w2.heap.size ≤ D := by omega
 have hDl : D < l := by omega
 clear hs2 hD hl
 have HKW := hI hK2; have HD1 := hI hD1; have HL1 := hI hl1
 clear hK2 hD1 hl1
 have hzV := KB.out.size
 have hz2 := HB2.out.size
 have hoV := lt_of_block K9.out
 have hnV := lt_of_block K7.out
 have hlV := lt_of_block K5.out
 have hzW := HKW.out.size
 have hlW := lt_of_block HL1.out
 have HB2w : Hid (Below w.heap.size w w2) := KB.out.trans (HB2.out.mono KB.out.size)
 have HBW : Hid (Below w.heap.size w W1) := HB2w.out.trans (HKW.out.to_below (B := w.heap.size) (fun b hb => hb.elim) (by omega))
 have HC1 := hI (HC.out.keep HKW.out)
 have Q5 : Hid (W1.heap[bl]? = some (.cells #[.slice A m c] 27 (0, 0))) := (HKW.out.block _ (by omega) (fun h => h)).trans ((HB2.out.block _ hlV).trans K5.out)
 have Q7 : Hid (W1.heap[bn]? = some (.cells #[.int .i64 now] 2 (0, 0))) := (HKW.out.block _ (by omega) (fun h => h)).trans ((HB2.out.block _ hnV).trans K7.out)
 have Q9 : Hid (W1.heap[bo]? = some (.cells #[.slice none 0 0] 36 (0, 0))) := (HKW.out.block _ (by omega) (fun h => h)).trans ((HB2.out.block _ hoV).trans K9.out)
 clear HC K5 K7 K9 HB2 KB
 obtain ⟨LN, hLN⟩ : ∃ LN, LN = lineN n rs (wavesD ys) a now := ⟨_, rfl⟩
 obtain ⟨LL, hLL⟩ : ∃ LL, LL = lineL n rs (wavesD ys) a now := ⟨_, rfl⟩
 have HLL : Hid (LL = LN.map (lawAt (wavesD ys))) := by show _ = _; rw [hLL, hLN]; rfl
 have HLY : (wavesD ys).length = m := by rw [wavesD, List.length_map]; exact HYS.out.len
 have HLM : Hid (∀ k ∈ LN, k < m) := fun k hk => by
  rw [hLN] at hk
  unfold lineN at hk
  have := ((byRank_mem (wave_strict _) _ _ _).1 hk).1
  omega
 have hll19 : LN.length ≤ 19 := by
  have h1 := rank_len (wave_strict (tAt n rs (wavesD ys) a)) (fun i => byNow now (tAt n rs (wavesD ys) a i)) (wavesD ys).length
  have h2 := List.length_filter_le (fun i => byNow now (tAt n rs (wavesD ys) a i)) (List.range (wavesD ys).length)
  rw [List.length_range, HLY] at h2
  rw [hLN]; unfold lineN; rw [h1, HLY]; omega
 have HLE := hI hLL; have HNE := hI hLN
 clear HLY
 obtain ⟨J, hJ⟩ : ∃ J : Nat → (Nat → Prop) → World → Prop, J = fun i T X => ∃ v, LinW bo l rc W1 .ready (LL.take i) T v X := ⟨_, rfl⟩
 have HJ := hI hJ; clear hJ
 refine (arr1_iter (9 - 1) l b1 b2 b3 b4 bn (by omega) mb n rs A m c ys a now J (fun b => b = bo ∨ b = l ∨ (Value.slice none 0 0).ownBlock = some b) W1 ?hlt ?hst ?hy ?h0 (cell_of_one HC1.out.c1) (cell_of_one HC1.out.c2) (cell_of_one HC1.out.c3) (cell_of_one HC1.out.c4) Q7.out
  (lt_of_block HC1.out.c1) (lt_of_block HC1.out.c2) (lt_of_block HC1.out.c3) (lt_of_block HC1.out.c4) (HM.out.below HBW.out) (HYS.out.below HBW.out) HONE.out han hm19).mono ?_
 case hlt =>
  intro s T X hx
  rw [HJ.out] at hx
  obtain ⟨v, hx⟩ := hx
  exact hx.lts
 case hst =>
  intro s T X X' hx hk
  rw [HJ.out] at hx ⊢
  obtain ⟨v, hx⟩ := hx
  exact ⟨v, hx.keep hk⟩
 case h0 =>
  rw [HJ.out]
  exact ⟨_, fun b => Iff.rfl, ⟨by omega, hlW, by omega⟩, Q9.out, NumW.nil rr, Keep.refl _ _, HL1.out⟩
 case hy =>
  intro i T X k hki hx
  rw [HJ.out] at hx
  obtain ⟨v, hx⟩ := hx
  refine wide_round HRC.out hx.lp rfl ?_
  have hkm : k < m := HLM.out k (List.mem_of_getElem? (by rw [hLN]; exact hki))
  have hi19 : i < LN.length := by rw [hLN]; exact (List.getElem?_eq_some_iff.1 hki).1
  have hX1 : Below w.heap.size w X := HBW.out.trans (hx.kp.to_below (fun b hb => by omega) HBW.out.size)
  obtain ⟨y, hyk⟩ := HYS.out.get hkm
  obtain ⟨yb, yo, hA, hyb, -, k0, -, -, -, -⟩ := HYS.out.at_ hyk
  have hlk : LL[i]? = some y.d.law := by
   rw [HLL.out, hLN, List.getElem?_map, hki]
   show some (lawAt (wavesD ys) k) = _
   unfold lawAt
   rw [wavesD, List.getElem?_map, hyk]; rfl
  have HLK := hI hlk
  subst hA
  obtain ⟨law, hlaw⟩ : ∃ law, law = y.d.law := ⟨_, rfl⟩
  rw [← hlaw] at k0 HLK
  have HX := hI hx
  have k0X := (hX1.cell (p := ⟨yb, yo + k * 5, none⟩) hyb).trans k0
  have q5X := (hx.kp.block bl (by omega) (by omega)).trans Q5.out
  clear hX1 hyk hlk hlaw hki hx k0 hLN hLL
  gi_wp2
  refine ⟨HX.out.lp, ?_⟩
  have hV := HX.out.put .busy
  have hKV : Keep T X (X.putObj l (.loop (rc .busy none))) := (Keep.refl T X).putObj ((HX.out.tw l).2 (.inr (.inl rfl))) _
  have k2 : (X.putObj l (.loop (rc .busy none))).cell? ⟨yb, yo + k * 5, none⟩ = some (.int .i64 law) := (cell_beside (World.putObj_heap_other (by omega)) _).trans k0X
  have k1 : (X.putObj l (.loop (rc .busy none))).cell? ⟨bl, 0, none⟩ = some (.slice (some ⟨yb, yo, none⟩) m c) := cell_of_one ((World.putObj_heap_other (by omega)).trans q5X)
  have hsV : (X.putObj l (.loop (rc .busy none))).heap.size = X.heap.size := by simp
  generalize X.putObj l (.loop (rc .busy none)) = V at *
  have k9 := cell_of_one hV.out
  have hkm' : (k : Int) < (m : Int) := by omega
  have HV := hI hV; have HKV := hI hKV; have HSV := hI hsV
  have HSS : Hid (∀ W' : World, (∀ b, b < V.heap.size → v.ownBlock ≠ some b → W'.heap[b]? = V.heap[b]?) → W'.cell? ⟨bo, 0, none⟩ = some v ∧ W'.cell? ⟨bl, 0, none⟩ = some (.slice (some ⟨yb, yo, none⟩) m c) ∧ W'.cell? ⟨yb, yo + k * 5, none⟩ = some (.int .i64 law)) := by
   intro W' h
   have hs1 := hV.kp.size
   have hne : ∀ b, b < W1.heap.size → v.ownBlock ≠ some b := fun b hb e => by have := (hV.own.1.lt b e).1; omega
   exact ⟨(cell_beside (h bo (by omega) (hne bo (by omega))) 0).trans k9, (cell_beside (h bl (by omega) (hne bl (by omega))) 0).trans k1, (cell_beside (h yb (by omega) (hne yb (by omega))) _).trans k2⟩
  clear hV hKV hsV k0X q5X
  gi_wp2
  refine round_region (fun W' => W'.cell? ⟨bo, 0, none⟩ = some v ∧ W'.cell? ⟨bl, 0, none⟩ = some (.slice (some ⟨yb, yo, none⟩) m c) ∧ W'.cell? ⟨yb, yo + k * 5, none⟩ = some (.int .i64 law)) (by kernel_rfl) (by kernel_rfl) (fun _ _ h => by exact h) ⟨k9, k1, k2⟩ (fun hHeld => ?_)
  clear k9 k1 k2
  (refine' anyT_tk 0 rfl ?_; (try simp only [Act.put, nY, nX])); (refine' anyT_tk 1 rfl ?_; (try simp only [Act.put, nY, nX])); (refine' anyT_tk 2 rfl ?_; (try simp only [Act.put, nY, nX])); (refine' anyT_tk 3 rfl ?_; (try simp only [Act.put, nY, nX])); (refine' anyT_tk 4 rfl ?_; (try simp only [Act.put, nY, nX])); (refine' anyT_tk 5 rfl ?_; (try simp only [Act.put, nY, nX]))
  clear hHeld
  (refine anyT_sp 6 rfl (fun K' hK' => ?_); simp only [nY]; go_simp)
  have hbd : Below V.heap.size V V.drew := (Below.refl _ _).drew
  have z1 : (V.drew.alloc (.cells #[.int .i64 law] 3)).heap[V.drew.heap.size]? = some (.cells #[.int .i64 law] 3 (0, 0)) := heap_new_at rfl
  have hB2 : Below V.heap.size V (V.drew.alloc (.cells #[.int .i64 law] 3)) := hbd.alloc hbd.size _
  have o7 := HV.out.own.below hB2
  refine hK' _ _ ⟨.inr (HSS.out _ fun b h _ => hB2.block b h), fun _ => ?_⟩
  clear hK' K'
  (try simp only [Act.put, nY, nX])
  obtain ⟨q, hq⟩ : ∃ q, q = (LL.take i).length := ⟨_, rfl⟩
  have hlt9 : q ≤ i := by rw [hq, List.length_take]; omega
  have HQ := hI hq
  have o7' := o7.1
  rw [← hq] at o7'
  clear hq
  refine anyT_sp 7 rfl (fun K' hK' => ?_)
  rw [if_pos (by rfl)]
  refine wp_append_own_at (.tmp 17) (.tmp 23) 36 rfl W1.heap.size 3 (.int .i64 0) 1 8 Tryz.underlying36 int_info rfl (by decide) v q ((LL.take i).map (Value.int .i64)) (by rfl) o7' ⟨V.drew.heap.size, 0, none⟩ 1 1 [.int .i64 law] (by rfl) rfl (one_cells z1) (by intro u hu; simp at hu; subst hu; rfl) (by unfold maxLen; omega) (by omega) o7.2 ?_
  intro v' X2 hown hgr _ hat
  obtain ⟨A9, c9, rfl⟩ := own_form hown
  have hg9 : ∀ b, b < V.heap.size → v.ownBlock ≠ some b → X2.heap[b]? = V.heap[b]? := fun b hb hn => (hgr.block b (Nat.lt_of_lt_of_le hb hB2.size) (fun e => hn e.symm)).trans (hB2.block b hb)
  have hS9 := HSS.out X2 hg9
  have hbo9 : v.ownBlock ≠ some bo := fun e => by have := (HV.out.own.1.lt bo e).1; omega
  have hl9 : v.ownBlock ≠ some l := fun e => by have := (HV.out.own.1.lt l e).1; omega
  have hVs1 := HV.out.kp.size
  have x9 := (hg9 bo (by omega) hbo9).trans HV.out.out
  have f9 := free_of_one x9
  have c9' := cell_of_one x9
  refine hK' _ _ ⟨.inr hS9, fun _ => ?_⟩
  clear hK' K'
  have HL9 : Hid (LinW bo l rc W1 .busy (LL.take (i + 1)) (fun b => b = bo ∨ b = l ∨ (Value.slice A9 (q + 1) c9).ownBlock = some b) (.slice A9 (q + 1) c9) (X2.setCell ⟨bo, 0, none⟩ (.slice A9 (q + 1) c9))) := by
   refine ⟨fun b => Iff.rfl, HV.out.lt, one_setCell x9, ?_, ?_, (Below.heap_setCell _ _ _ _ (by show l ≠ bo; omega)).trans ((hg9 l (by omega) hl9).trans HV.out.lp)⟩
   ·have hn := (NumW.push o7 (by rw [← HQ.out]; exact hown) hgr)
    have he : LL.take (i + 1) = LL.take i ++ [law] := by rw [List.take_add_one, HLK.out]; rfl
    rw [he]
    exact hn.block (by simp) fun b e => Below.heap_setCell _ _ _ _ (by have := (hn.1.lt b e).1; show b ≠ bo; omega)
   ·exact ((HV.out.kp.below hB2 rr).grown hgr fun b e => .inr (HV.out.own.1.lt b e).1).setCell (p := ⟨bo, 0, none⟩) (.inl rfl) _
  have HK9 : Hid (Keep T X (X2.setCell ⟨bo, 0, none⟩ (.slice A9 (q + 1) c9))) :=
   ((HKV.out.below hB2 rr).grown hgr fun b e => .inl ((HV.out.tw b).2 (.inr (.inr e)))).setCell (p := ⟨bo, 0, none⟩) ((HV.out.tw bo).2 (.inl rfl)) _
  have HT9 : Hid (∀ b, (b = bo ∨ b = l ∨ (Value.slice A9 (q + 1) c9).ownBlock = some b) → T b ∨ X.heap.size ≤ b) := by
   rintro b (e | e | e)
   ·exact .inl ((HV.out.tw b).2 (.inl e))
   ·exact .inl ((HV.out.tw b).2 (.inr (.inl e)))
   ·rcases hat with h | h
    ·exact .inl ((HV.out.tw b).2 (.inr (.inr (h ▸ e))))
    ·rw [h] at e; injection e with e
     right; rw [← HSV.out, ← e]; exact hB2.size
  clear o7' hown hgr hat hg9 hS9 hbo9 hl9 x9 o7 z1 hB2 hbd HSS HKV HSV HV hVs1
  (try simp only [Act.put, nY, nX])
  (refine anyT_sp 8 rfl (fun K' hK' => ?_); simp only [nY]; go_simp)
  refine hK' _ _ ⟨.inl (by kernel_rfl), fun _ => anyT_done (by kernel_rfl) ?_ _⟩
  clear hK' K' f9 c9'
  generalize X2.setCell ⟨bo, 0, none⟩ (.slice A9 (q + 1) c9) = Y at *
  gi_wp2
  refine ⟨HL9.out.lp, rfl, ?_⟩
  rw [HJ.out]
  exact ⟨_, ⟨_, HL9.out.put .ready⟩, HK9.out.putObj ((HX.out.tw l).2 (.inr (.inl rfl))) _, HT9.out⟩
 rintro e W' ⟨⟨v, rfl⟩, T, hj⟩
 rw [HJ.out] at hj
 obtain ⟨v9, hj⟩ := hj
 refine .inl ⟨hj.lp, ?_⟩
 have xC := hj.put .exhausted
 generalize W'.putObj l (.loop (rc .exhausted none)) = X at *
 have hLL9 : LL.take (lineN n rs (wavesD ys) a now).length = LL := by rw [← hLN, HLL.out, List.take_of_length_le (by simp)]
 rw [hLL9] at xC
 obtain ⟨A9, k9, rfl⟩ := xC.own.form
 have c1 := cell_of_one xC.out
 have XC := hI xC
 clear hj xC hLL9 hLL hLN
 gi_wp2
 have hM : Marks w.heap.size X [mark D] := ⟨D, rfl, by omega, (XC.out.kp.block D (by omega) (by omega)).trans HD1.out, by simp, trivial⟩
 have hX : Below w.heap.size w X := HBW.out.trans (XC.out.kp.to_below (fun b hb => by omega) HBW.out.size)
 refine post_tmp (B := w.heap.size) Tryz.results59 (.slice A9 LL.length k9) rfl hM fun w' hw' => ⟨A9, k9, by rw [HLE.out], ?_, hX.trans hw'.below⟩
 rw [← HLE.out]
 exact Cells.of_own (own_shut XC.out.own.1 hw') (by decide)
end Go.Proofs.YtaglfmlgbcmakaaGreatDoor
namespace Go.Proofs.YtaglfmlgbcmakaaGreatDoor
open Go.RowKit Go.Shelf
theorem lineA_c (b n : Nat) (rs : List RoadN) (Ax : Option Addr) (nx cx : Nat) (xs : List LawR) (A : Option Addr) (m c : Nat) (ys : List WaveR) (aa now : Int) (w : World) (hm : MapAt w b n rs) (hx : IsLaws w Ax nx cx xs) (hy : IsWaves w A m c ys) (hT : TabOK w) (h19 : m ≤ 19 ∨ 64 < m) :
  Calls Tryz.prog 29 #[.pointer (some ⟨b, 0, none⟩), .slice Ax nx cx, .slice A m c, .int .i64 aa, .int .i64 now] w (RetI w (lineM n rs (lawsD xs) (wavesD ys) aa now)) := by
 obtain ⟨An, cn, mb, Ar, cr, Aq, cq, c0, c1, c2, c3⟩ := hm.cells
 have hbl := hm.lt
 have HM := hI hm; have HX := hI hx; have HY := hI hy; have HT := hI hT; have HC := hI c0
 have hly : (wavesD ys).length = m := by rw [wavesD, List.length_map]; exact hy.len
 have HLY := hI hly
 have H19 := hI h19
 clear hm hx hy hT c0 c1 c2 c3 hly h19
 go_enter Tryz.func29, Tryz.ntmps29
 go_wp2_with fail
 refine (wcheck38_c b n rs Ax nx cx xs A m c ys w HM.out HX.out HY.out HT.out).mono ?_
 obtain ⟨er, her⟩ : ∃ er, er = waveE n (lawsD xs) (wavesD ys) := ⟨_, rfl⟩
 rw [← her]
 rintro e w1 ⟨rfl, hb1⟩
 have HB1 := hI hb1; have HER := hI her
 clear hb1 her
 by_cases he0 : er = 0
 ·have he1 : (er != 0) = false := by simp [he0]
  have HW0 : Hid (waveE n (lawsD xs) (wavesD ys) = 0) := by show _ = _; rw [← HER.out, he0]
  have HV : Hid (lineM n rs (lawsD xs) (wavesD ys) aa now = if aa < 0 ∨ (n : Int) ≤ aa then (3, []) else (0, lineL n rs (wavesD ys) aa.toNat now)) := by
   show _ = _; unfold lineM; rw [if_neg (by rw [HW0.out]; simp)]
  have hm19 : m ≤ 19 := by have := (wave_ok HW0.out).2.2.1; rw [HLY.out] at this; have := H19.out; omega
  have HONE : Hid (∀ y ∈ ys, oneE n y.d = 0) := fun y hy => ((wave_ok HW0.out).2.2.2 y.d (List.mem_map.2 ⟨y, hy, rfl⟩)).2.2
  clear HER he0
  by_cases hk0 : aa < 0
  ·have HV1 : Hid (lineM n rs (lawsD xs) (wavesD ys) aa now = (3, [])) := by show _ = _; rw [HV.out, if_pos (.inl hk0)]
   go_wp2
   go_ret2
   exact RetI.bad HV1.out HB1.out
  ·go_wp2_with fail
   refine (mlen_c b An n cn w1 ((HB1.out.cell (p := ⟨b, 0, none⟩) hbl).trans HC.out)).mono ?_
   rintro e w2 ⟨rfl, hb2⟩
   have HB2 := hI (HB1.out.trans (hb2.mono HB1.out.size))
   clear hb2 HB1
   by_cases hkm : (n : Int) ≤ aa
   ·have HV1 : Hid (lineM n rs (lawsD xs) (wavesD ys) aa now = (3, [])) := by show _ = _; rw [HV.out, if_pos (.inr hkm)]
    go_wp2
    go_ret2
    exact RetI.bad HV1.out HB2.out
   ·obtain ⟨k, rfl⟩ : ∃ k : Nat, aa = k := ⟨aa.toNat, by omega⟩
    have hkn : k < n := by omega
    have hkn2 : ¬ (n : Int) ≤ (k : Int) := by omega
    have HV1 : Hid (lineM n rs (lawsD xs) (wavesD ys) k now = (0, lineL n rs (wavesD ys) k now)) := by
     show _ = _; rw [HV.out, if_neg (by omega)]; rfl
    clear HV
    go_wp2_with fail
    refine (line_c b n rs A m c ys k now w2 (HM.out.below HB2.out) (HY.out.below HB2.out) HONE.out hkn hm19).mono ?_
    rintro e w3 ⟨A3, c3, rfl, hi3, hb3⟩
    obtain ⟨q, hq⟩ : ∃ q, q = (lineL n rs (wavesD ys) k now).length := ⟨_, rfl⟩
    rw [← hq] at hi3 ⊢
    have HI3 := hI hi3
    have HB3 := hI (HB2.out.trans (hb3.mono HB2.out.size))
    clear hi3 hb3 hq
    go_wp2
    go_ret2
    exact ⟨A3, q, c3, by rw [HV1.out]; rfl, by rw [HV1.out]; exact HI3.out, HB3.out⟩
 ·have he1 : (er != 0) = true := by simpa using he0
  have HV : Hid (lineM n rs (lawsD xs) (wavesD ys) aa now = (er, [])) := by show _ = _; unfold lineM; rw [if_pos (by rw [← HER.out]; exact he0), HER.out]
  go_wp2
  go_ret2
  exact RetI.bad HV.out HB1.out
end Go.Proofs.YtaglfmlgbcmakaaGreatDoor
namespace Go.Proofs.YtaglfmlgbcmakaaGreatDoor
open Go.RowKit
def Unfz (w : World) (A : Option Addr) (n : Nat) : Prop := 0 < n → ∀ ad, A = some ad → ∃ cs t, w.heap[ad.block]? = some (.cells cs t (0, 0))
theorem Unfz.of_own {w : World} {base : Nat} {t : TypeId} {sz n c m : Nat} {A : Option Addr} {xs : List Value} (h : w.ownsRow base t sz (.slice A n c) m xs) : Unfz w A n := fun _ ad had => by
 rcases h.2 with ⟨e, _⟩ | ⟨g, cap, cur, e, _, hg, _⟩
 ·injection e with e _ _
  rw [had] at e; cases e
 ·injection e with e _ _
  rw [had] at e
  injection e with e
  subst e
  exact ⟨_, _, hg⟩
theorem Unfz.keep {w w' : World} {A : Option Addr} {n : Nat} (h : Unfz w A n) (hb : 0 < n → ∀ ad, A = some ad → w'.heap[ad.block]? = w.heap[ad.block]?) : Unfz w' A n := fun hn ad had => by
 obtain ⟨cs, t, hc⟩ := h hn ad had
 exact ⟨cs, t, (hb hn ad had).trans hc⟩
theorem Unfz.below {w w' : World} {A : Option Addr} {n : Nat} (h : Unfz w A n) (hb : Below w.heap.size w w') : Unfz w' A n := fun hn ad had => by
 obtain ⟨cs, t, hc⟩ := h hn ad had
 exact ⟨cs, t, (hb.block _ (lt_of_block hc)).trans hc⟩
def RetWordU (w : World) (xs : List Snd) (e : Ending) (w' : World) : Prop :=
 ∃ A n c, e = .returned (.slice A n c) ∧ IsWord w' A n c xs ∧ Below w.heap.size w w' ∧ (∀ ad, A = some ad → w.heap.size ≤ ad.block) ∧ Unfz w' A n
theorem cloneU_c (A : Option Addr) (n c : Nat) (xs : List Snd) (w : World) (hx : IsWord w A n c xs) (hb : n ≤ 4096) :
  Calls Tryz.prog 60 #[.slice A n c] w (RetWordU w xs) := by
 have HX := hI hx; clear hx
 cases A with
 | none =>
  have hc0 : c = 0 := HX.out.2.2.2.1 rfl
  have hn0 : n = 0 := by have := HX.out.2.1; omega
  subst hc0 hn0
  go_enter Tryz.func60, Tryz.ntmps60
  go_wp2
  go_ret
  obtain rfl : xs = [] := List.eq_nil_of_length_eq_zero HX.out.len
  exact ⟨none, 0, 0, rfl, Cells.nil _ _, Below.refl _ _, (fun _ h => by cases h), fun _ _ h => by cases h⟩
 | some ad =>
  go_enter Tryz.func60, Tryz.ntmps60
  go_wp2_with (at_builtin; refine append_snd rfl (.tmp 5) (.tmp 6) rfl w.heap.size _ 0 [] rfl (World.ownsRow_made w #[] 0 rr (by simp [maxLen]) rfl) (some ad) n c xs rfl (HX.out.below (B := w.heap.size) bel rr) (by omega) (by simp) ?_; intro v1 w1 hown1 hg1 _)
  go_ret
  have hb1 := own_below (B := w.heap.size) (w0 := w) bel (World.ownsRow_made (e := 49) (size := 2) w #[] 0 rr (by simp [maxLen]) rfl) hg1 rr (by simp)
  have ho : w1.ownsRow w.heap.size 49 2 v1 n (wcells xs) := by simpa using hown1
  obtain ⟨A1, c1, rfl⟩ := own_form ho
  exact ⟨A1, n, c1, rfl, Cells.of_own ho (by decide), hb1, (fun ad had => by subst had; exact (ho.lt ad.block rfl).1), Unfz.of_own ho⟩
end Go.Proofs.YtaglfmlgbcmakaaGreatDoor
namespace Go.Proofs.YtaglfmlgbcmakaaGreatDoor
open Go.RowKit Go.Shelf Go.Maps Go.WideMaps
def heldR (v : Value) : Option (DataW Value × List MemPlace) := some (.held v, [])
def byteL (L : List Int) : List UInt8 := L.map fun x => UInt8.ofNat x.toNat
def keyL (L : List Int) : Lit := .string (byteL L)
def ByteU (L : List Int) : Prop := ∀ x ∈ L, 0 ≤ x ∧ x < 256
theorem byteL_inj : ∀ {L L' : List Int}, ByteU L → ByteU L' → byteL L = byteL L' → L = L'
 | [], [], _, _, _ => rfl
 | [], y :: ys, _, _, e => by cases e
 | x :: xs, [], _, _, e => by cases e
 | x :: xs, y :: ys, h, h', e => by
  simp only [byteL, List.map_cons, List.cons.injEq] at e
  have hx := h x (List.mem_cons_self ..)
  have hy := h' y (List.mem_cons_self ..)
  have e1 : x = y := by
   have := congrArg UInt8.toNat e.1
   simp only [UInt8.toNat_ofNat'] at this
   omega
  rw [e1, byteL_inj (fun z hz => h z (List.mem_cons_of_mem _ hz)) (fun z hz => h' z (List.mem_cons_of_mem _ hz)) e.2]
theorem keyL_inj {L L' : List Int} (h : ByteU L) (h' : ByteU L') (e : keyL L = keyL L') : L = L' := by
 injection e with e
 exact byteL_inj h h' e
theorem key_line (L : List Int) (hl : L.length ≤ 4096) : keyOf Tryz.prog 9 (.string ⟨(byteL L).toArray⟩) = some (keyL L) := by
 have h := keyOf_string_mk (P := Tryz.prog) (k := 9) (s := ⟨(byteL L).toArray⟩) Tryz.underlying9 (by
  show ((byteL L).toArray).size ≤ maxLen
  rw [List.size_toArray]; unfold byteL maxLen; rw [List.length_map]; omega)
 rw [h]; rfl
theorem conv_key {w : World} {B : Nat} {v : Value} {L : List Int} (hu : ByteU L) (h : w.ownsRow B 5 1 v L.length (L.map (Value.int .u8))) : (convert 102 9 v).run Tryz.prog w = .ok (.string ⟨(byteL L).toArray⟩) w := by
 rcases h.2 with ⟨rfl, e⟩ | ⟨g, cap, cur, rfl, _, hg, h1, h2, h3, h4⟩
 ·obtain rfl : L = [] := List.length_eq_zero_iff.1 e
  rw [run_convert_bytes_string w 102 9 5 none 0 0 Tryz.underlying102 Tryz.underlying5 Tryz.underlying9]
  simp [Conv.bytesToString, byteL]
  rfl
 ·have hb : (byteL L).length = L.length := List.length_map _
  rw [← hb]
  refine run_convert_bytes_back w 102 9 5 ⟨g, 0, none⟩ cap (byteL L) Tryz.underlying102 Tryz.underlying5 Tryz.underlying9 fun j hj => ?_
  have hj' : j < L.length := by rw [← hb]; exact hj
  rw [addr_add, Nat.zero_add]
  refine cell_at_heap hg ?_
  rw [Nat.mul_one] at h4
  have h5 := congrArg (fun l : List Value => l[j]?) h4
  simp only [List.getElem?_take, if_pos hj', List.getElem?_map, List.getElem?_eq_getElem hj', Option.map_some] at h5
  have h6 : cur[j]? = some (.int .u8 L[j]) := by simpa using h5
  rw [h6]
  have hx := hu L[j] (List.getElem_mem _)
  have : ((byteL L)[j].toNat : Int) = L[j] := by
   simp only [byteL, List.getElem_map, UInt8.toNat_ofNat']
   omega
  rw [this]
def AptW (B bm : Nat) (vo : Value) (W : World) (A : Option Addr) (n : Nat) : Prop := 0 < n → ∀ ad, A = some ad → B ≤ ad.block ∧ ad.block ≠ bm ∧ vo.ownBlock ≠ some ad.block ∧ ad.block < W.heap.size
structure FormW (B bm i : Nat) (ls : List LawD) (ws : List Snd) (vo : Value) (ps : List Part) (D : DataW Value) (W : World) : Prop where
 lb : B ≤ bm
 om : W.ownsMap Tryz.prog 9 heldR bm i D
 im : IsMap D
 wd : ∀ L, ByteU L → Go.Maps.has D (keyL L) = true → ∃ A n c, D.atKey (keyL L) (.held (.slice none 0 0)) = .held (.slice A n c) ∧ IsWord W A n c (deriveM (putL38 ls L) ws).2 ∧ (deriveM (putL38 ls L) ws).1 = 0 ∧ AptW B bm vo W A n
 oo : W.ownsRow B 28 1 vo ps.length (ps.map Part.val)
 pp : Parts W ps
 pd : ∀ p ∈ ps, AptW B bm vo W p.1 p.2.1
 pu : ∀ p ∈ ps, Unfz W p.1 p.2.1
 sz : B ≤ W.heap.size
section
variable {B bm i : Nat} {ls : List LawD} {ws : List Snd} {vo vo' : Value} {ps : List Part} {D : DataW Value} {W W' : World}
theorem own_map {n : Nat} {H : Type} {R : Value → Option (DataW H × List MemPlace)} {D : DataW H} {k : TypeId} (h : W.ownsMap Tryz.prog k R bm n D) (hb : W'.heap[bm]? = W.heap[bm]?) : W'.ownsMap Tryz.prog k R bm n D := by
 obtain ⟨es, clock, h1, h2⟩ := h
 exact ⟨es, clock, hb.trans h1, h2⟩
theorem AptW.up {A : Option Addr} {n : Nat} (h : AptW B bm vo W A n) (hs : W.heap.size ≤ W'.heap.size) : AptW B bm vo W' A n := fun hn ad had => by
 obtain ⟨h1, h2, h3, h4⟩ := h hn ad had
 exact ⟨h1, h2, h3, Nat.lt_of_lt_of_le h4 hs⟩
theorem FormW.mono (h : FormW B bm i ls ws vo ps D W) {j : Nat} (hj : i ≤ j) : FormW B bm j ls ws vo ps D W := ⟨h.lb, h.om.mono hj, h.im, h.wd, h.oo, h.pp, h.pd, h.pu, h.sz⟩
theorem FormW.below (h : FormW B bm i ls ws vo ps D W) (hb : Below W.heap.size W W') : FormW B bm i ls ws vo ps D W' :=
 ⟨h.lb, own_map h.om (hb.block bm h.om.lt), h.im, fun L hL hh => by
   obtain ⟨A, n, c, h1, h2, h3, h4⟩ := h.wd L hL hh
   exact ⟨A, n, c, h1, h2.below hb rr, h3, h4.up hb.size⟩,
  own_heap h.oo fun k e => hb.block k (h.oo.lt k e).2, fun p hp => (h.pp p hp).below hb rr, fun p hp => (h.pd p hp).up hb.size, fun p hp => (h.pu p hp).below hb, Nat.le_trans h.sz hb.size⟩
theorem FormW.noMap (h : FormW B bm i ls ws vo ps D W) : vo.ownBlock ≠ some bm := by
 intro e
 obtain ⟨es, clock, h1, _⟩ := h.om
 rcases h.oo.2 with ⟨rfl, _⟩ | ⟨g, cap, cur, rfl, _, hg, _⟩
 ·cases e
 ·obtain rfl : g = bm := Option.some.inj e
  rw [hg] at h1; cases h1
theorem FormW.put (h : FormW B bm i ls ws vo ps D W) {L : List Int} (hL : ByteU L) {A : Option Addr} {n c : Nat} (hw : IsWord W A n c (deriveM (putL38 ls L) ws).2) (h0 : (deriveM (putL38 ls L) ws).1 = 0) (hf : AptW B bm vo W A n)
  (hm : W'.ownsMap Tryz.prog 9 heldR bm (i + 1) (D.put (keyL L) (.held (.slice A n c)))) (hg : W.grownBy W' (some bm)) : FormW B bm (i + 1) ls ws vo ps (D.put (keyL L) (.held (.slice A n c))) W' ∧ IsWord W' A n c (deriveM (putL38 ls L) ws).2 ∧ AptW B bm vo W' A n := by
 have hne := h.noMap
 have hk : Keep (fun k => k = bm) W W' := ⟨hg.os, hg.tape, hg.output, hg.size, fun k hk hn => hg.block k hk (fun e => hn (by injection e))⟩
 have hkw : ∀ {A' : Option Addr} {n' c' : Nat} {x : List Snd}, IsWord W A' n' c' x → AptW B bm vo W A' n' → IsWord W' A' n' c' x := fun hw hn => hw.keep hk fun hp ad had e => (hn hp ad had).2.1 e
 refine ⟨⟨h.lb, hm, h.im.put _ _, fun L' hL' hh => ?_, own_heap h.oo fun k e => hg.block k (h.oo.lt k e).2 (fun e' => by injection e' with e'; subst e'; exact hne e), fun p hp => hkw (h.pp p hp) (h.pd p hp), fun p hp => (h.pd p hp).up hg.size, fun p hp => (h.pu p hp).keep fun hn ad had => hg.block ad.block (h.pd p hp hn ad had).2.2.2 (fun e => by injection e with e; exact (h.pd p hp hn ad had).2.1 e), Nat.le_trans h.sz hg.size⟩, hkw hw hf, hf.up hg.size⟩
 by_cases e : L' = L
 ·subst e
  exact ⟨A, n, c, atKey_put_same h.im (show WideAt.IsKeyLit (keyL L') from trivial) _ _, hkw hw hf, h0, hf.up hg.size⟩
 ·have hne' : keyL L' ≠ keyL L := fun e' => e (keyL_inj hL' hL e')
  rw [has_put_other hne'] at hh
  obtain ⟨A', n', c', h1, h2, h3, h4⟩ := h.wd L' hL' hh
  exact ⟨A', n', c', by rw [atKey_put_other hne']; exact h1, hkw h2 h4, h3, h4.up hg.size⟩
theorem FormW.push (h : FormW B bm i ls ws vo ps D W) {p : Part} (hw : IsWord W p.1 p.2.1 p.2.2.1 p.2.2.2) (hf : AptW B bm vo W p.1 p.2.1) (hu : Unfz W p.1 p.2.1)
  (hown : W'.ownsRow B 28 1 vo' (ps.length + 1) (ps.map Part.val ++ [p.val])) (hg : W.grownBy W' vo.ownBlock) (hat : vo'.ownBlock = vo.ownBlock ∨ vo'.ownBlock = some W.heap.size) : FormW B bm i ls ws vo' (ps ++ [p]) D W' := by
 have hk : Keep (fun k => vo.ownBlock = some k) W W' := ⟨hg.os, hg.tape, hg.output, hg.size, fun k hk hn => hg.block k hk (fun e => hn e.symm)⟩
 have hap : ∀ {A : Option Addr} {n : Nat}, AptW B bm vo W A n → AptW B bm vo' W' A n := fun h hn ad had => by
  obtain ⟨h1, h2, h3, h4⟩ := h hn ad had
  refine ⟨h1, h2, fun e => ?_, Nat.lt_of_lt_of_le h4 hg.size⟩
  rcases hat with h' | h'
  ·exact h3 (h' ▸ e)
  ·rw [h'] at e; injection e with e; omega
 refine ⟨h.lb, own_map h.om (hg.block bm h.om.lt fun e => h.noMap e.symm), h.im, fun L hL hh => ?_, by rw [List.length_append, List.map_append]; exact hown, ?_, ?_, ?_, Nat.le_trans h.sz hg.size⟩
 ·obtain ⟨A', n', c', h1, h2, h3, h4⟩ := h.wd L hL hh
  exact ⟨A', n', c', h1, h2.keep hk fun hn ad had => (h4 hn ad had).2.2.1, h3, hap h4⟩
 ·intro q hq
  rcases List.mem_append.1 hq with hq | hq
  ·exact (h.pp q hq).keep hk fun hn ad had => (h.pd q hq hn ad had).2.2.1
  ·obtain rfl : q = p := by simpa using hq
   exact hw.keep hk fun hn ad had => (hf hn ad had).2.2.1
 ·intro q hq
  rcases List.mem_append.1 hq with hq | hq
  ·exact hap (h.pd q hq)
  ·obtain rfl : q = p := by simpa using hq
   exact hap hf
 ·intro q hq
  rcases List.mem_append.1 hq with hq | hq
  ·exact (h.pu q hq).keep fun hn ad had => hg.block ad.block (h.pd q hq hn ad had).2.2.2 (fun e => (h.pd q hq hn ad had).2.2.1 e.symm)
  ·obtain rfl : q = p := by simpa using hq
   exact hu.keep fun hn ad had => hg.block ad.block (hf hn ad had).2.2.2 (fun e => (hf hn ad had).2.2.1 e.symm)
end
def RetFs (w : World) (r : Int × List (List Snd)) (e : Ending) (w' : World) : Prop :=
 ∃ A c, ∃ ps : List Part, e = .returned (.tuple #[.slice A ps.length c, .int .i64 r.1]) ∧ ps.map Part.word = r.2 ∧ w'.ownsRow w.heap.size 28 1 (.slice A ps.length c) ps.length (ps.map Part.val) ∧ Parts w' ps ∧
  (∀ p ∈ ps, 0 < p.2.1 → ∀ ad, p.1 = some ad → w.heap.size ≤ ad.block ∧ (Value.slice A ps.length c).ownBlock ≠ some ad.block ∧ ∃ cs t, w'.heap[ad.block]? = some (.cells cs t (0, 0))) ∧ Below w.heap.size w w'
theorem RetFs.bad {w w' : World} {r : Int × List (List Snd)} {er : Int} (h : r = (er, [])) (hb : Below w.heap.size w w') : RetFs w r (.returned (.tuple #[.slice none 0 0, .int .i64 er])) w' := by
 subst h; exact ⟨none, 0, [], rfl, rfl, World.ownsRow_nil _ _ _ _, (fun p hp => absurd hp (List.not_mem_nil)), (fun p hp => absurd hp (List.not_mem_nil)), hb⟩
end Go.Proofs.YtaglfmlgbcmakaaGreatDoor

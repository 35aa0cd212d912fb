/-
  pats.Check: the iterator over a list of patterns, backwards.
  pats.Check.
  slices.IndexFunc and slices.ContainsFunc over sounds.
  pats.relate, pats.exists.
  pats.Begins.
-/
import Derived.Laws.ResultCell
import Derived.Test.YtaglfmlgbcmakaaGreatDoorG05
import Derived.Test.YtaglfmlgbcmakaaGreatDoorG06
set_option linter.all false
set_option maxRecDepth 100000
set_option maxHeartbeats 4000000
namespace Go.Proofs.YtaglfmlgbcmakaaGreatDoor
open Go.RowKit Go.Shelf
attribute [local go_sem] Oper.semAt_some
theorem backward_c (A : Option Addr) (n c : Nat) (w : World) :
  Calls Tryz.prog 175 #[.slice A n c] w fun e w' => e = .returned (.func (.func 189) #[] #[.pointer (some ⟨w.heap.size, 0, none⟩)]) ∧ w.alloc (.cells #[.slice A n c] 50) = w' := by
 go_enter Tryz.func175, Tryz.ntmps175
 go_wp2
 go_ret
 exact ⟨rfl, rfl⟩
theorem back1_iter (m l bs : Nat) (hm : 1 ≤ m) (A : Option Addr) (n c : Nat) (f : Fo) (hlen : n ≤ f.len) (hn63 : n ≤ 9223372036854775807) (W0 : World) (hF : FAt W0 A 0 f) (J : Nat → World → Prop) (W : World)
  (hJ : ∀ j W, J j W → W.cell? ⟨bs, 0, none⟩ = some (.slice A n c) ∧ ∀ b o, b < W0.heap.size → W.cell? ⟨b, o, none⟩ = W0.cell? ⟨b, o, none⟩)
  (hy : ∀ i k ch A' c' W, i < n → f.get i = some (k, ch) → FSl W0 A' ch.len c' ch → J (i + 1) W → YieldAt Fence.wide (m - 1) Tryz.prog l #[.int .i64 i, patV k A' ch.len c'] W (fun e W' => e = .returned (.bool true) ∧ J i W'))
  (h0 : J n W) :
  CallsIn Fence.wide m Tryz.prog 189 #[.func (.yield l) #[] #[], .pointer (some ⟨bs, 0, none⟩)] W fun e W' => (∃ v, e = .returned v) ∧ J 0 W' := by
 have HJ := hI hJ; clear hJ
 have HF := hI hF; clear hF
 have HY := hI hy; clear hy
 have H0 := hI h0; clear h0
 have hc := (HJ.out _ _ H0.out).1
 refine callsIn_of_wp Tryz.func189 rfl trivial ?_
 simp only [Tryz.ntmps189, List.size_toArray, List.length_cons, List.length_nil, Nat.reduceAdd, Nat.reduceSub, Array.replicate_succ, Array.replicate_zero, List.push_toArray, List.append_toArray, List.nil_append, List.cons_append]
 gi_wp2
 clear hc
 gi_loopw [3] (fun i wr => ∃ j : Nat, j ≤ n ∧ i = .int .i64 ((j : Int) - 1) ∧ Hid (J j wr))
  (fun i wr => (intOf i + 1).toNat)
 case atStart => exact ⟨n, rr, rfl, H0⟩
 case round =>
  obtain ⟨j, hj, rfl, hJ⟩ := hrel
  by_cases h0 : j = 0
  ·subst h0
   gi_wp2
   go_end0
   exact ⟨⟨_, rfl⟩, hJ.out⟩
  ·obtain ⟨i, rfl⟩ : ∃ i, j = i + 1 := ⟨j - 1, by omega⟩
   obtain ⟨⟨k, ch⟩, hg⟩ := f.get_lt i (by omega)
   obtain ⟨hc, hceq⟩ := HJ.out _ _ hJ.out
   obtain ⟨b, off, A', n', c', rfl, hbl, ⟨g0, g1, g2, g3, g4, g5, g6⟩, ⟨rfl, hn'⟩, hch', _⟩ := HF.out.at_ f _ 0 i k ch hg
   rw [← hceq b _ hbl] at g0 g1 g2 g3 g4 g5 g6
   clear hceq
   obtain ⟨fn, tmps, assign, body, hyr, hR⟩ := HY.out i k ch A' c' wr (by omega) hg ⟨⟨rfl, hn'⟩, hch'⟩ hJ.out
   simp only [Nat.zero_add] at g0 g1 g2 g3 g4 g5 g6
   have HR := hI hR; clear hR
   have HG := hI hg; clear hg
   clear hch'
   have e1 : ((i + 1 : Nat) : Int) - 1 = (i : Int) := by omega
   rw [e1]
   clear e1
   gi_wp2
   refine HR.out.mono ?_
   rintro e W3 ⟨rfl, hJ3⟩
   have HJ3 := hI hJ3; clear hJ3
   gi_wp2
   go_roundw
   case rel => exact ⟨i, by omega, by go_num, HJ3⟩
   case measure => simp [intOf]
end Go.Proofs.YtaglfmlgbcmakaaGreatDoor
namespace Go.Proofs.YtaglfmlgbcmakaaGreatDoor
open Go.RowKit Go.Shelf
attribute [local go_sem] Oper.semAt_some
structure SE where
 k : Nd
 A : Option Addr
 c : Nat
 ch : Fo
def SE.cells (e : SE) : List Value := [.int .i64 e.k.kind, .int .u32 e.k.isp, .int .u32 e.k.ism, .bool e.k.neg, .int .i64 e.k.lo, .int .i64 e.k.hi, .slice e.A e.ch.len e.c]
def SE.pat (e : SE) : Nd × Fo := (e.k, e.ch)
theorem SE.len (e : SE) : e.cells.length = 7 := rfl
def SE.ok (w : World) (e : SE) : Prop := FSl w e.A e.ch.len e.c e.ch
theorem pat_info : (Tryz.prog.info? 52).map (fun i => (i.zero, i.size, i.bytes)) = some (some (.agg #[.int .i64 0, .int .u32 0, .int .u32 0, .bool false, .int .i64 0, .int .i64 0, .slice none 0 0]), 7, 64) := by kernel_rfl
theorem pat_size : (Tryz.prog.info? 52).map (·.size) = some 7 := by kernel_rfl
theorem pat_one (a b c d e f : _) (A : Option Addr) (n m : Nat) : (#[Value.int .i64 a, .int .u32 b, .int .u32 c, .bool d, .int .i64 e, .int .i64 f, .slice A n m].all (·.oneCell')) = true := by simp [Value.oneCell']
theorem check_c (k : Nd) (A : Option Addr) (c : Nat) (ch : Fo) (w : World) (hf : FSl w A ch.len c ch) :
  Calls Tryz.prog 154 #[patV k A ch.len c] w fun e w' => e = .returned (.int .i64 (checkM 40 [(k, ch)])) ∧ Below w.heap.size w w' := by
 have HF := hI hf; clear hf
 refine (callsIn_wide (n := 9)).1 (callsIn_of_wp_marks Tryz.func154 rfl trivial ?_ rfl)
 simp only [Tryz.ntmps154, List.size_toArray, List.length_cons, List.length_nil, Nat.reduceAdd, Nat.reduceSub, Array.replicate_succ, Array.replicate_zero, List.push_toArray, List.append_toArray, List.nil_append, List.cons_append]
 gi_wp2
 refine wpIn_loop (fun a' wr => ∃ (cnt : Nat) (ms : List SE) (A1 : Option Addr) (c1 : Nat) (ds : List Deferred) (u2 u5 u6 u7 u8 u9 u10 u11 u12 u13 u14 u15 u16 u17 u18 u19 u20 u21 u22 u23 u24 u25 u26 u27 u28 u29 u30 u31 u32 u33 u34 u35 u36 u37 u38 u39 u40 u41 u42 u43 u44 u45 u46 u47 u48 u49 u50 u51 : Value),
   a' = { tmps := #[patV k A ch.len c, .pointer (some ⟨w.heap.size, 0, none⟩), u2, .pointer (some ⟨w.heap.size + 1 + 1, 0, none⟩), .int .i64 cnt, u5, u6, u7, u8, u9, u10, u11, u12, u13, u14, u15, u16, u17, u18, u19, u20, u21, u22, u23, u24, u25, u26, u27, u28, u29, u30, u31, u32, u33, u34, u35, u36, u37, u38, u39, u40, u41, u42, u43, u44, u45, u46, u47, u48, u49, u50, u51], defers := ds } ∧
   cnt ≤ 40 ∧ Marks w.heap.size wr ds ∧ wr.heap[w.heap.size + 1 + 1]? = some (.cells #[.slice A1 ms.length c1] 50 (0, 0)) ∧
   wr.ownsRow (w.heap.size + 1) 52 7 (.slice A1 ms.length c1) ms.length (ms.flatMap SE.cells) ∧ (∀ e ∈ ms, e.ok w) ∧ ms.length ≤ 41 * cnt + 1 ∧
   checkM (40 - cnt) (ms.reverse.map SE.pat) = checkM 40 [(k, ch)] ∧ Below w.heap.size w wr)
  (fun a' _ => 40 - (intOf (a'.tmps.getD 4 undef)).toNat) ?start ?round
 case start =>
  refine ⟨0, [⟨k, A, c, ch⟩], _, 1, [], _, _, _, _, _, _, _, _, _, _, _, _, _, _, _, _, _, _, _, _, _, _, _, _, _, _, _, _, _, _, _, _, _, _, _, _, _, _, _, _, _, _, _, _, _, _, _, _, rfl, by omega, trivial, hpt, ?_, ?_, by simp, rfl, bel⟩
  ·refine ⟨rfl, Or.inr ⟨w.heap.size + 1, 1, _, rfl, rr, hpt, rr, by unfold maxLen; omega, rfl, rfl⟩⟩
  ·intro e he
   obtain rfl : e = ⟨k, A, c, ch⟩ := by simpa using he
   exact HF.out
 case round =>
  rintro _ wr ⟨cnt, ms, A1, c1, ds, u2, u5, u6, u7, u8, u9, u10, u11, u12, u13, u14, u15, u16, u17, u18, u19, u20, u21, u22, u23, u24, u25, u26, u27, u28, u29, u30, u31, u32, u33, u34, u35, u36, u37, u38, u39, u40, u41, u42, u43, u44, u45, u46, u47, u48, u49, u50, u51, rfl, hcnt, hM, hb, hown, hok, hlen, hck, hB⟩
  have HM := hI hM; clear hM
  rcases List.eq_nil_or_concat ms with hm | ⟨ms, e, hm⟩
  ·subst hm
   have hr : checkM 40 [(k, ch)] = 0 := by rw [← hck]; unfold checkM; cases (40 - cnt) <;> rfl
   have HR := hI hr
   have hc3 := cell_of_one hb
   simp only [List.length_nil] at hc3
   clear hr hck hok hown hb
   gi_wp2
   exact post_tmp (B := w.heap.size) Tryz.results154 (.int .i64 0) rfl HM.out fun w' hw' => ⟨by rw [HR.out], hB.trans hw'.below⟩
  ·rw [List.concat_eq_append] at hm
   subst hm
   rw [List.length_append, List.length_singleton] at hb hown hlen
   rw [List.reverse_append, List.reverse_singleton, List.singleton_append, List.map_cons] at hck
   have hc3 := cell_of_one hb
   have hf3 := free_of_one hb
   obtain ⟨g, cap, hsl⟩ := ownsRow_succ hown
   obtain ⟨rfl, rfl⟩ : A1 = some ⟨g, 0, none⟩ ∧ c1 = cap := by simpa using hsl
   clear hsl
   obtain ⟨b0, off0, hA0, -, hcs⟩ := (Recs.of_own hown SE.len (by decide)).at_ SE.len (by decide) (k := ms.length) (x := e) (by simp)
   obtain ⟨rfl, rfl⟩ : g = b0 ∧ 0 = off0 := by simpa using hA0
   clear hA0
   have q0 := hcs 0 _ rfl
   have q1 := hcs 1 _ rfl
   have q2 := hcs 2 _ rfl
   have q3 := hcs 3 _ rfl
   have q4 := hcs 4 _ rfl
   have q5 := hcs 5 _ rfl
   have q6 := hcs 6 _ rfl
   simp only [Nat.zero_add, Nat.add_zero, ← Nat.add_assoc] at q0 q1 q2 q3 q4 q5 q6
   obtain ⟨hg1, hg2⟩ := hown.lt g rfl
   have hl3 : w.heap.size + 1 + 1 < wr.heap.size := lt_of_block hb
   have hne3 : some (w.heap.size + 1 + 1) ≠ some g := Boxed.not_row (B := w.heap.size + 1 + 1) hb (by decide) hown
   have hqc : ms.length + 1 ≤ c1 := by have := (Cells.of_own hown (by decide)).2.1; exact this
   have hq63 : ms.length + 1 ≤ 9223372036854775807 := by have := (Cells.of_own hown (by decide)).2.2.1; unfold maxLen at this; omega
   have HOWN := hI hown; clear hown
   have HOK := hI hok; clear hok
   have HBX := hI hb; clear hb
   have HCK := hI hck; clear hck
   clear hcs
   by_cases h40 : cnt = 40
   ·subst h40
    have hr : checkM 40 [(k, ch)] = 12 := by rw [← HCK.out]; rfl
    have HR := hI hr
    clear hr
    gi_wp2
    exact post_tmp (B := w.heap.size) Tryz.results154 (.int .i64 12) rfl HM.out fun w' hw' => ⟨by rw [HR.out], hB.trans hw'.below⟩
   ·have h40' : ((cnt : Int) == 40) = false := by simp; omega
    have hch63 : e.ch.len ≤ 9223372036854775807 := by have := (HOK.out e (by simp)).1; have h2 := this.2.1; have h3 := this.2.2.1; unfold maxLen at h3; omega
    gi_wp2_with (refine ⟨trivial, ?_⟩; gi_at_call 174; refine (callsIn_wide.2 (allowed_c _ _ _ _ _ hch63)).mono ?_)
    rintro e1 w1 ⟨rfl, hb1⟩
    clear q0 q1 q2 q3 q4 q5 q6 hc3 hf3
    have hs1 := hb1.size
    simp only [World.size_alloc, World.size_setCell] at hs1
    have hK1 : Keep (fun j => j = w.heap.size + 1 + 1) wr w1 := (((Keep.refl (fun j => j = w.heap.size + 1 + 1) wr).setCell (p := ⟨w.heap.size + 1 + 1, 0, none⟩) rfl _).alloc _).below hb1 rr
    have h5 : w1.heap[wr.heap.size]? = some (.cells #[.int .i64 e.k.kind, .int .u32 e.k.isp, .int .u32 e.k.ism, .bool e.k.neg, .int .i64 e.k.lo, .int .i64 e.k.hi, .slice e.A e.ch.len e.c] 52 (0, 0)) := (hb1.block _ (by simp)).trans (heap_new_at (by simp))
    have h3 : w1.heap[w.heap.size + 1 + 1]? = some (.cells #[.slice (some ⟨g, 0, none⟩) ms.length c1] 50 (0, 0)) := (hb1.block _ (by simp; omega)).trans ((heap_old_at (by simp; omega)).trans (one_setCell HBX.out))
    have hownc := own_cut HOWN.out
    rw [flat_take _ _ SE.len, List.take_left'] at hownc
    rotate_left
    ·rfl
    have hown1 : w1.ownsRow (w.heap.size + 1) 52 7 (.slice (some ⟨g, 0, none⟩) ms.length c1) ms.length (ms.flatMap SE.cells) :=
     own_keep ((ownsRow_setCell_other hownc (fun h => hne3 h.symm) _).alloc _) hb1 rr
    have HM1 : Hid (Marks w.heap.size w1 ds) := HM.out.keep hK1 (fun k hk o ho hd => by subst hk; rw [HBX.out] at ho; subst hd; cases ho)
    have hB1 : Below w.heap.size w w1 := hB.trans (hK1.to_below (fun k hk => by omega) (by omega))
    have H5 := hI h5
    have c50 := cell_at_heap (j := 6) h5 rfl
    clear hb1 hownc h5
    have HOWN1 := hI hown1; clear hown1
    have H3 := hI h3
    have hc3 := cell_of_one h3
    clear h3
    by_cases hal : allowedM e.k e.ch.len = 0
    ·have hal' : (allowedM e.k e.ch.len == 0) = true := by rw [hal]; rfl
     have HAL := hI hal; clear hal
     have hcc : e.ch.len ≤ e.c := (HOK.out e (by simp)).1.2.1
     have hcm : e.c ≤ 9223372036854775807 := by have := (HOK.out e (by simp)).1.2.2.1; unfold maxLen at this; omega
     have hw1l : wr.heap.size < w1.heap.size := lt_of_block H5.out
     obtain ⟨q, hq⟩ : ∃ q, q = min e.ch.len 41 := ⟨_, rfl⟩
     have hqe : q ≤ e.ch.len := by omega
     have hq41 : q ≤ 41 := by omega
     have HQT : Hid (e.ch.list.take q = e.ch.list.take 41) := by
      show e.ch.list.take q = e.ch.list.take 41
      rcases Nat.le_total e.ch.len 41 with h | h
      ·rw [List.take_of_length_le (by rw [Fo.list_len]; omega), List.take_of_length_le (by rw [Fo.list_len]; omega)]
      ·rw [show q = 41 by omega]
     obtain ⟨W0, hW0⟩ : ∃ W0, w1.alloc (.cells #[.slice e.A q e.c] 50) = W0 := ⟨_, rfl⟩
     have hbs : W0.heap[w1.heap.size]? = some (.cells #[.slice e.A q e.c] 50 (0, 0)) := by rw [← hW0]; exact hpt
     have hKw : Keep (fun _ => False) w1 W0 := by rw [← hW0]; exact (Keep.refl _ _).alloc _
     have hW0s : W0.heap.size = w1.heap.size + 1 := by rw [← hW0]; simp
     have HQ := hI hq
     clear hq
     have HW0 := hI hW0
     clear hW0
     have HBS := hI hbs
     clear hbs
     by_cases h41 : e.ch.len ≤ 41
     all_goals
      have HZ := hI hW0s
      clear hW0s
      gi_wp2
      refine ⟨trivial, ?_⟩
      gi_at_call 175
      refine (callsIn_wide.2 (backward_c _ _ _ _)).mono ?_
      rintro e2 w2 ⟨rfl, rfl⟩
      gi_wp2
      have hE := HW0.out
      rw [HQ.out] at hE
      first | rw [Nat.min_eq_left h41] at hE | rw [Nat.min_eq_right (by omega)] at hE
      rw [hE]
      clear hE
      refine wide_range (gf := 189) (lb := #[.pointer (some ⟨w1.heap.size, 0, none⟩)]) rfl (enters_of Tryz.func189 (by kernel_rfl) rfl) fun fn D l rc W1 hrc hD hl hK2 hD1 hl1 hs2 => ?_
      have hW0s := HZ.out
      have hlg : w1.heap.size + 1 < l := by omega
      have hlW : l < W1.heap.size := by omega
      have hDl : D < l := by omega
      have hDg : w1.heap.size < D := by omega
      have HRC := hI hrc; clear hrc
      have HS2 := hI (And.intro hD (And.intro hl hs2)); clear hD hl hs2 hW0s
      have hKW : Keep (fun _ => False) w1 W1 := hKw.trans hK2
      have hBW1 : Below w.heap.size w W1 := hB1.trans (hKW.to_below (fun k hk => hk.elim) (by have := hB1.size; omega))
      obtain ⟨J, hJ⟩ : ∃ J : Nat → World → Prop, J = fun j W => ∃ (L : List SE) (A2 : Option Addr) (c2 : Nat), j ≤ q ∧ L.length + j = q ∧ L.reverse.map SE.pat = (e.ch.list.take q).drop j ∧ (∀ x ∈ L, x.ok w) ∧
        W.heap[w.heap.size + 1 + 1]? = some (.cells #[.slice A2 (ms.length + L.length) c2] 50 (0, 0)) ∧
        W.ownsRow (w.heap.size + 1) 52 7 (.slice A2 (ms.length + L.length) c2) (ms.length + L.length) ((ms ++ L).flatMap SE.cells) ∧
        (∃ g2, A2 = some ⟨g2, 0, none⟩ ∧ (g2 = g ∨ W1.heap.size ≤ g2)) ∧
        Keep (fun b => b = w.heap.size + 1 + 1 ∨ b = l ∨ b = g) W1 W ∧ W.heap[l]? = some (.loop (rc .ready none)) := ⟨_, rfl⟩
      have HJ := hI hJ; clear hJ
      refine (back1_iter (9 - 1) l w1.heap.size (by omega) e.A q e.c e.ch hqe (by omega) w (HOK.out e (by simp)).2
       J
       W1 ?hj ?hy ?h0).mono ?_
      case h0 =>
       rw [HJ.out]
       refine ⟨[], some ⟨g, 0, none⟩, c1, rr, by simp, ?_, by simp, (hKW.block _ (by omega) (by simp)).trans H3.out, ?_, ⟨g, rfl, Or.inl rfl⟩, Keep.refl _ _, hl1⟩
       ·rw [List.drop_eq_nil_of_le (by rw [List.length_take]; omega)]; rfl
       ·simp only [List.length_nil, Nat.add_zero, List.append_nil]
        exact own_keep HOWN1.out (Below.trans (Below.refl w1.heap.size w1) (hKW.to_below (fun k hk => hk.elim) rr)) rr
      case hj =>
       intro j W hx
       rw [HJ.out] at hx
       obtain ⟨L, A2, c2, h1, h2, h3, h4, h5, h6, h7, h8, h9⟩ := hx
       have hbsW : W.heap[w1.heap.size]? = some (.cells #[.slice e.A q e.c] 50 (0, 0)) := (h8.block _ (by omega) (by omega)).trans ((hK2.block _ (by have := hK2.size; have := HZ.out; omega) (by simp)).trans HBS.out)
       refine ⟨cell_of_one hbsW, fun b o hb => ?_⟩
       exact World.cell?_of_block ((h8.block b (by have := hBW1.size; omega) (by omega)).trans (hBW1.block b hb))
      case hy =>
       intro i k' ch' A' c' W hi hg hfs hx
       rw [HJ.out] at hx
       obtain ⟨L, A2, c2, h1, h2, h3, h4, h5, h6, ⟨g2, rfl, hg2⟩, h8, h9⟩ := hx
       obtain ⟨N, hN⟩ : ∃ N, ms.length + L.length = N := ⟨_, rfl⟩
       rw [hN] at h5 h6
       have hlm : N ≤ 2000 := by omega
       have HN := hI hN; clear hN
       refine wide_round HRC.out h9 rfl ?_
       have H9 := hI h9; clear h9
       have H3L := hI h3; clear h3
       have H4L := hI h4; clear h4
       have H5L := hI h5; clear h5
       have H6L := hI h6; clear h6
       have H8L := hI h8; clear h8
       have HG := hI hg; clear hg
       have HFS := hI hfs; clear hfs
       have H2L := hI h2; clear h2
       gi_wp2
       have hll : l < W.heap.size := (Array.getElem?_eq_some_iff.1 H9.out).1
       have hWs := H8L.out.size
       have hA9 : (W.alloc (.cells #[.int .i64 k'.kind, .int .u32 k'.isp, .int .u32 k'.ism, .bool k'.neg, .int .i64 k'.lo, .int .i64 k'.hi, .slice A' ch'.len c'] 52)).heap[l]? = some (.loop (rc .ready none)) := (heap_old_at hll).trans H9.out
       have hAq : (W.alloc (.cells #[.int .i64 k'.kind, .int .u32 k'.isp, .int .u32 k'.ism, .bool k'.neg, .int .i64 k'.lo, .int .i64 k'.hi, .slice A' ch'.len c'] 52)).heap[W.heap.size]? = some (.cells #[.int .i64 k'.kind, .int .u32 k'.isp, .int .u32 k'.ism, .bool k'.neg, .int .i64 k'.lo, .int .i64 k'.hi, .slice A' ch'.len c'] 52 (0, 0)) := heap_new_at rfl
       have hAK : Keep (fun b => b = w.heap.size + 1 + 1 ∨ b = l ∨ b = g) W1 (W.alloc (.cells #[.int .i64 k'.kind, .int .u32 k'.isp, .int .u32 k'.ism, .bool k'.neg, .int .i64 k'.lo, .int .i64 k'.hi, .slice A' ch'.len c'] 52)) := H8L.out.alloc _
       have hA5 : (W.alloc (.cells #[.int .i64 k'.kind, .int .u32 k'.isp, .int .u32 k'.ism, .bool k'.neg, .int .i64 k'.lo, .int .i64 k'.hi, .slice A' ch'.len c'] 52)).heap[w.heap.size + 1 + 1]? = some (.cells #[.slice (some ⟨g2, 0, none⟩) N c2] 50 (0, 0)) := (heap_old_at (lt_of_block H5L.out)).trans H5L.out
       have hA6 := H6L.out.alloc (.cells #[.int .i64 k'.kind, .int .u32 k'.isp, .int .u32 k'.ism, .bool k'.neg, .int .i64 k'.lo, .int .i64 k'.hi, .slice A' ch'.len c'] 52)
       have hAs : W.heap.size < (W.alloc (.cells #[.int .i64 k'.kind, .int .u32 k'.isp, .int .u32 k'.ism, .bool k'.neg, .int .i64 k'.lo, .int .i64 k'.hi, .slice A' ch'.len c'] 52)).heap.size := by simp
       generalize (W.alloc (.cells #[.int .i64 k'.kind, .int .u32 k'.isp, .int .u32 k'.ism, .bool k'.neg, .int .i64 k'.lo, .int .i64 k'.hi, .slice A' ch'.len c'] 52)) = U at *
       refine ⟨hA9, ?_⟩
       have hV1 : (U.putObj l (.loop (rc .busy none))).heap[l]? = some (.loop (rc .busy none)) := World.putObj_heap_same (by omega)
       have hKV : Keep (fun b => b = w.heap.size + 1 + 1 ∨ b = l ∨ b = g) W1 (U.putObj l (.loop (rc .busy none))) := hAK.putObj (by simp) _
       have h5V : (U.putObj l (.loop (rc .busy none))).heap[w.heap.size + 1 + 1]? = some (.cells #[.slice (some ⟨g2, 0, none⟩) N c2] 50 (0, 0)) := (World.putObj_heap_other (by omega)).trans hA5
       have hqV : (U.putObj l (.loop (rc .busy none))).heap[W.heap.size]? = some (.cells #[.int .i64 k'.kind, .int .u32 k'.isp, .int .u32 k'.ism, .bool k'.neg, .int .i64 k'.lo, .int .i64 k'.hi, .slice A' ch'.len c'] 52 (0, 0)) := (World.putObj_heap_other (by omega)).trans hAq
       have h6V : (U.putObj l (.loop (rc .busy none))).ownsRow (w.heap.size + 1) 52 7 (.slice (some ⟨g2, 0, none⟩) N c2) N ((ms ++ L).flatMap SE.cells) := ownsRow_putObj hA6 _ hA9 rfl
       have hVs : W1.heap.size ≤ (U.putObj l (.loop (rc .busy none))).heap.size := hKV.size
       have hg2W : g2 < W.heap.size := (H6L.out.lt g2 rfl).2
       clear hA9 hAq hAK hA5 hA6 hAs
       generalize U.putObj l (.loop (rc .busy none)) = V at *
       have c3 := cell_of_one h5V
       have f3 := free_of_one h5V
       have d0 := cell_at_heap (j := 0) hqV rfl
       have d1 := cell_at_heap (j := 1) hqV rfl
       have d2 := cell_at_heap (j := 2) hqV rfl
       have d3 := cell_at_heap (j := 3) hqV rfl
       have d4 := cell_at_heap (j := 4) hqV rfl
       have d5 := cell_at_heap (j := 5) hqV rfl
       have d6 := cell_at_heap (j := 6) hqV rfl
       obtain ⟨hg21, hg22⟩ := h6V.lt g2 rfl
       have hne2 : some (w.heap.size + 1 + 1) ≠ some g2 := Boxed.not_row (B := w.heap.size + 1 + 1) h5V (by decide) h6V
       have hlc : N ≤ c2 := (Cells.of_own h6V (by decide)).2.1
       have hV3 : w.heap.size + 1 + 1 < V.heap.size := lt_of_block h5V
       have hV4 : W.heap.size < V.heap.size := lt_of_block hqV
       have HV1 := hI hV1; clear hV1
       have HKV := hI hKV; clear hKV
       have H5V := hI h5V; clear h5V
       have H6V := hI h6V; clear h6V
       have HQV := hI hqV; clear hqV
       gi_wp2
       refine round_regionK 4 (fun W' => W'.cell? ⟨w.heap.size + 1 + 1, 0, none⟩ = some (.slice (some ⟨g2, 0, none⟩) N c2) ∧ W'.cell? ⟨W.heap.size, 0, none⟩ = some (.int .i64 k'.kind) ∧ W'.cell? ⟨W.heap.size, 1, none⟩ = some (.int .u32 k'.isp) ∧ W'.cell? ⟨W.heap.size, 2, none⟩ = some (.int .u32 k'.ism) ∧
        W'.cell? ⟨W.heap.size, 3, none⟩ = some (.bool k'.neg) ∧ W'.cell? ⟨W.heap.size, 4, none⟩ = some (.int .i64 k'.lo) ∧ W'.cell? ⟨W.heap.size, 5, none⟩ = some (.int .i64 k'.hi) ∧ W'.cell? ⟨W.heap.size, 6, none⟩ = some (.slice A' ch'.len c')) (by kernel_rfl) (by kernel_rfl) (fun _ _ h => by exact h) ⟨c3, d0, d1, d2, d3, d4, d5, d6⟩ (fun hHeld => ?_)
       (refine' anyK_take (i := 0) (v := _) rfl (by kernel_rfl) (by kernel_rfl) (by kernel_rfl) (by kernel_rfl) (fun _ _ _ h => h) (Or.inl ⟨by rfl, fun w' hSw => by (try dsimp only at hSw); go_split_ands; go_simp; (try with_reducible rfl)⟩) (by assumption) ?_; (try simp only [Act.put, nY, nX])); (refine' anyK_take (i := 1) (v := _) rfl (by kernel_rfl) (by kernel_rfl) (by kernel_rfl) (by kernel_rfl) (fun _ _ _ h => h) (Or.inl ⟨by rfl, fun w' hSw => by (try dsimp only at hSw); go_split_ands; go_simp; (try with_reducible rfl)⟩) (by assumption) ?_; (try simp only [Act.put, nY, nX])); (refine' anyK_take (i := 2) (v := _) rfl (by kernel_rfl) (by kernel_rfl) (by kernel_rfl) (by kernel_rfl) (fun _ _ _ h => h) (Or.inl ⟨by rfl, fun w' hSw => by (try dsimp only at hSw); go_split_ands; go_simp; (try with_reducible rfl)⟩) (by assumption) ?_; (try simp only [Act.put, nY, nX]))
       (refine anyK_step (i := 3) (by kernel_rfl) rfl (fun K' hK' => ?_); simp only [nY]; go_simp)
       refine hK' _ _ ⟨.inr (by first | (go_keep; done) | ((try dsimp only); ((repeat' apply And.intro) <;> (try simp (disch := omega) only [cell_set_block, cell_new_block, World.cell?_drew]) <;> first | assumption | (simp [*, go_sem]; done)))), fun hS3 => ?_⟩
       (try simp only [Act.put, nY, nX])
       have p5 : (V.alloc (.cells #[.int .i64 0, .int .u32 0, .int .u32 0, .bool false, .int .i64 0, .int .i64 0, .slice none 0 0] 52)).drew.heap[w.heap.size + 1 + 1]? = some (.cells #[.slice (some ⟨g2, 0, none⟩) N c2] 50 (0, 0)) := (heap_old_at (lt_of_block H5V.out)).trans H5V.out
       have pq : (V.alloc (.cells #[.int .i64 0, .int .u32 0, .int .u32 0, .bool false, .int .i64 0, .int .i64 0, .slice none 0 0] 52)).drew.heap[W.heap.size]? = some (.cells #[.int .i64 k'.kind, .int .u32 k'.isp, .int .u32 k'.ism, .bool k'.neg, .int .i64 k'.lo, .int .i64 k'.hi, .slice A' ch'.len c'] 52 (0, 0)) := (heap_old_at (lt_of_block HQV.out)).trans HQV.out
       have pl : (V.alloc (.cells #[.int .i64 0, .int .u32 0, .int .u32 0, .bool false, .int .i64 0, .int .i64 0, .slice none 0 0] 52)).drew.heap[l]? = some (.loop (rc .busy none)) := (heap_old_at (lt_of_block HV1.out)).trans HV1.out
       have pK : Keep (fun b => b = w.heap.size + 1 + 1 ∨ b = l ∨ b = g) W1 (V.alloc (.cells #[.int .i64 0, .int .u32 0, .int .u32 0, .bool false, .int .i64 0, .int .i64 0, .slice none 0 0] 52)).drew := (HKV.out.alloc _).drew
       have p6 : (V.alloc (.cells #[.int .i64 0, .int .u32 0, .int .u32 0, .bool false, .int .i64 0, .int .i64 0, .slice none 0 0] 52)).drew.ownsRow (w.heap.size + 1) 52 7 (.slice (some ⟨g2, 0, none⟩) N c2) N ((ms ++ L).flatMap SE.cells) := H6V.out.alloc _
       have pz : ∀ j u, [Value.int .i64 0, .int .u32 0, .int .u32 0, .bool false, .int .i64 0, .int .i64 0, .slice none 0 0][j]? = some u → (V.alloc (.cells #[.int .i64 0, .int .u32 0, .int .u32 0, .bool false, .int .i64 0, .int .i64 0, .slice none 0 0] 52)).drew.cell? ((⟨V.heap.size, 0, none⟩ : Addr).add j) = some u := cells_new_block V _ _
       have ps : (V.alloc (.cells #[.int .i64 0, .int .u32 0, .int .u32 0, .bool false, .int .i64 0, .int .i64 0, .slice none 0 0] 52)).drew.heap.size = V.heap.size + 1 := by simp
       generalize (V.alloc (.cells #[.int .i64 0, .int .u32 0, .int .u32 0, .bool false, .int .i64 0, .int .i64 0, .slice none 0 0] 52)).drew = w3 at *
       refine anyK_step (i := 4) (by kernel_rfl) rfl (fun K' hK' => ?_)
       rw [if_pos (by rfl)]
       refine wp_append_own_at (.tmp 46) (.tmp 49) 50 rfl (w.heap.size + 1) 52 (.agg #[.int .i64 0, .int .u32 0, .int .u32 0, .bool false, .int .i64 0, .int .i64 0, .slice none 0 0]) 7 64 Tryz.underlying50 pat_info rfl (by decide) (.slice (some ⟨g2, 0, none⟩) N c2) N _ (by rfl) p6 ⟨V.heap.size, 0, none⟩ 1 1 _ (by rfl) rfl pz (by intro u hu; simp at hu; rcases hu with rfl | rfl | rfl | rfl | rfl | rfl | rfl <;> rfl) (by unfold maxLen; omega) (by omega) (by omega) ?_
       intro v' w4 hown4 hg4 _ hat
       obtain ⟨g4, cap4, rfl⟩ := ownsRow_succ hown4
       have hat' : g4 = g2 ∨ g4 = w3.heap.size := by simpa [Value.ownBlock] using hat
       have hs4 := hg4.size
       have hb2 : (Value.slice (some ⟨g2, 0, none⟩) N c2).ownBlock = some g2 := rfl
       rw [hb2] at hg4
       have q5 := (hg4.block _ (lt_of_block p5) hne2).trans p5
       have qq := (hg4.block _ (lt_of_block pq) (by simp; omega)).trans pq
       have ql := (hg4.block _ (lt_of_block pl) (by simp; omega)).trans pl
       have qK : Keep (fun b => b = w.heap.size + 1 + 1 ∨ b = l ∨ b = g) W1 w4 := ⟨hg4.os.trans pK.os, hg4.tape.trans pK.tape, hg4.output.trans pK.output, Nat.le_trans pK.size hg4.size, fun k hk hs => (hg4.block k (by have := pK.size; omega) (by simp; omega)).trans (pK.block k hk hs)⟩
       have e0 := cell_at_heap (j := 0) qq rfl
       have e1 := cell_at_heap (j := 1) qq rfl
       have e2 := cell_at_heap (j := 2) qq rfl
       have e3 := cell_at_heap (j := 3) qq rfl
       have e4 := cell_at_heap (j := 4) qq rfl
       have e5 := cell_at_heap (j := 5) qq rfl
       have e6 := cell_at_heap (j := 6) qq rfl
       have e7 := cell_of_one q5
       have hth := own_there hown4
       have hcap4 : N + 1 ≤ cap4 := (Cells.of_own hown4 (by decide)).2.1
       have hcap63 : cap4 ≤ 9223372036854775807 := by have := (Cells.of_own hown4 (by decide)).2.2.1; unfold maxLen at this; omega
       have hown5 : (w4.setCells g4 (N * 7) [.int .i64 k'.kind, .int .u32 k'.isp, .int .u32 k'.ism, .bool k'.neg, .int .i64 k'.lo, .int .i64 k'.hi, .slice A' ch'.len c']).ownsRow (w.heap.size + 1) 52 7 (.slice (some ⟨g4, 0, none⟩) (N + 1) cap4) (N + 1) ((ms ++ L).flatMap SE.cells ++ [.int .i64 k'.kind, .int .u32 k'.isp, .int .u32 k'.ism, .bool k'.neg, .int .i64 k'.lo, .int .i64 k'.hi, .slice A' ch'.len c']) := own_push hown4 H6V.out.1 rfl
       have hne4 : w.heap.size + 1 + 1 ≠ g4 := by have := lt_of_block p5; simp at hne2; omega
       have hlg4 : l ≠ g4 := by have := lt_of_block pl; omega
       have hgg4 : g4 = g ∨ W1.heap.size ≤ g4 := by have := pK.size; omega
       have hqg : W.heap.size ≠ g4 := by have := lt_of_block pq; omega
       have HOWN4 := hI hown4
       have HOWN5 := hI hown5
       have HTH := hI hth
       have Q5 := hI q5
       have QL := hI ql
       have QK := hI qK
       clear p5 pq pl pK p6 pz ps hown4 hg4 hat q5 qq ql qK hown5 hth c3 d0 d1 d2 d3 d4 d5 d6 f3 hHeld hS3
       refine hK' _ _ ⟨.inl (by kernel_rfl), fun _ => anyK_of_T _ _ _ _ (by kernel_rfl) ?_⟩
       clear hK' K'
       have hS5 := trivial
       have hNN : ((N : Nat) : Int) < (N : Int) + 1 := by omega
       (try simp only [Act.put, nY, nX])
       (refine' anyT_tk 5 rfl ?_; (try simp only [Act.put, nY, nX]))
       have HFIN : Hid (∀ X : World, X.heap[w.heap.size + 1 + 1]? = some (.cells #[.slice (some ⟨g4, 0, none⟩) (N + 1) cap4] 50 (0, 0)) →
         X.ownsRow (w.heap.size + 1) 52 7 (.slice (some ⟨g4, 0, none⟩) (N + 1) cap4) (N + 1) ((ms ++ L).flatMap SE.cells ++ [.int .i64 k'.kind, .int .u32 k'.isp, .int .u32 k'.ism, .bool k'.neg, .int .i64 k'.lo, .int .i64 k'.hi, .slice A' ch'.len c']) →
         Keep (fun b => b = w.heap.size + 1 + 1 ∨ b = l ∨ b = g) W1 X → X.heap[l]? = some (.loop (rc .busy none)) → J i (X.putObj l (.loop (rc .ready none)))) := by
        intro X x1 x2 x3 x4
        rw [HJ.out]
        have hLN : ms.length + (L ++ [(⟨k', A', c', ch'⟩ : SE)]).length = N + 1 := by rw [List.length_append]; have := HN.out; simp; omega
        have hcat : (ms ++ (L ++ [(⟨k', A', c', ch'⟩ : SE)])).flatMap SE.cells = (ms ++ L).flatMap SE.cells ++ [.int .i64 k'.kind, .int .u32 k'.isp, .int .u32 k'.ism, .bool k'.neg, .int .i64 k'.lo, .int .i64 k'.hi, .slice A' ch'.len c'] := by rw [← List.append_assoc, List.flatMap_append (xs := ms ++ L)]; rfl
        refine ⟨L ++ [(⟨k', A', c', ch'⟩ : SE)], some ⟨g4, 0, none⟩, cap4, by omega, by rw [List.length_append]; have := H2L.out; simp; omega, ?_, ?_, ?_, ?_, ⟨g4, rfl, hgg4⟩, x3.putObj (by simp) _, World.putObj_heap_same (lt_of_block x4)⟩
        ·have h3 := H3L.out
         have hgl := HG.out
         rw [Fo.get_list] at hgl
         have hil : i < (e.ch.list.take q).length := by rw [List.length_take, Fo.list_len]; omega
         have hgi : (e.ch.list.take q)[i] = (k', ch') := by
          have : (e.ch.list.take q)[i]? = some (k', ch') := by rw [List.getElem?_take, if_pos hi]; exact hgl
          exact (List.getElem?_eq_some_iff.1 this).2
         rw [List.reverse_append, List.map_append, h3, List.drop_eq_getElem_cons hil, hgi]
         rfl
        ·intro x hx
         rcases List.mem_append.1 hx with h | h
         ·exact H4L.out x h
         ·obtain rfl : x = ⟨k', A', c', ch'⟩ := by simpa using h
          exact HFS.out
        ·rw [hLN, World.putObj_heap_other (by omega)]; exact x1
        ·rw [hLN, hcat]; exact ownsRow_putObj x2 _ x4 rfl
       refine anyT_two (i := 6) (j := 7) (by kernel_rfl) rfl rfl (fun K' hK' => ?_) (fun K' hK' => ?_)
       all_goals rw [if_pos (by rfl)]
       ·refine wp_store_mid 52 (.tmp 51) (.tmp 47) rfl g4 (N * 7) #[.int .i64 k'.kind, .int .u32 k'.isp, .int .u32 k'.ism, .bool k'.neg, .int .i64 k'.lo, .int .i64 k'.hi, .slice A' ch'.len c'] (by rfl) (by rfl) HTH.out pat_size (pat_one _ _ _ _ _ _ _ _ _) ?_
        have r5 := (heap_setCells_other g4 _ hne4 [.int .i64 k'.kind, .int .u32 k'.isp, .int .u32 k'.ism, .bool k'.neg, .int .i64 k'.lo, .int .i64 k'.hi, .slice A' ch'.len c'] (N * 7) w4).trans Q5.out
        have rl := (heap_setCells_other g4 _ hlg4 [.int .i64 k'.kind, .int .u32 k'.isp, .int .u32 k'.ism, .bool k'.neg, .int .i64 k'.lo, .int .i64 k'.hi, .slice A' ch'.len c'] (N * 7) w4).trans QL.out
        have rq : ∀ o, (w4.setCells g4 (N * 7) [.int .i64 k'.kind, .int .u32 k'.isp, .int .u32 k'.ism, .bool k'.neg, .int .i64 k'.lo, .int .i64 k'.hi, .slice A' ch'.len c']).cell? ⟨W.heap.size, o, none⟩ = w4.cell? ⟨W.heap.size, o, none⟩ := fun o => World.cell?_of_block (heap_setCells_other g4 _ hqg _ _ _)
        have rK : Keep (fun b => b = w.heap.size + 1 + 1 ∨ b = l ∨ b = g) W1 (w4.setCells g4 (N * 7) [.int .i64 k'.kind, .int .u32 k'.isp, .int .u32 k'.ism, .bool k'.neg, .int .i64 k'.lo, .int .i64 k'.hi, .slice A' ch'.len c']) := Keep.setCells g4 (by omega) _ _ _ QK.out
        have r6 := HOWN5.out
        have rs := size_setCells g4 [.int .i64 k'.kind, .int .u32 k'.isp, .int .u32 k'.ism, .bool k'.neg, .int .i64 k'.lo, .int .i64 k'.hi, .slice A' ch'.len c'] (N * 7) w4
        generalize w4.setCells g4 (N * 7) [.int .i64 k'.kind, .int .u32 k'.isp, .int .u32 k'.ism, .bool k'.neg, .int .i64 k'.lo, .int .i64 k'.hi, .slice A' ch'.len c'] = w5 at *
        have r7 := cell_of_one r5
        have r8 := free_of_one r5
        refine hK' _ _ ⟨.inr trivial, fun _ => ?_⟩
        clear hK' K' rq
        have R5 := hI r5; clear r5
        have R6 := hI r6; clear r6
        have RK := hI rK; clear rK
        have RL := hI rl; clear rl
        (try simp only [Act.put, nY, nX])
        (refine anyT_sp 7 rfl (fun K' hK' => ?_); simp only [nY]; go_simp)
        refine hK' _ _ ⟨.inl (by kernel_rfl), fun _ => anyT_done (by kernel_rfl) ?_ _⟩
        simp only [Exit.inBlock]
        have s5 := one_setCell (u := .slice (some ⟨g4, 0, none⟩) (N + 1) cap4) R5.out
        have s6 := ownsRow_setCell_other R6.out (a := ⟨w.heap.size + 1 + 1, 0, none⟩) (by simp [Value.ownBlock]; omega) (.slice (some ⟨g4, 0, none⟩) (N + 1) cap4)
        have sK := RK.out.setCell' (p := ⟨w.heap.size + 1 + 1, 0, none⟩) (by simp) (.slice (some ⟨g4, 0, none⟩) (N + 1) cap4)
        have sl := (Below.heap_setCell w5 ⟨w.heap.size + 1 + 1, 0, none⟩ (.slice (some ⟨g4, 0, none⟩) (N + 1) cap4) l (by simp; omega)).trans RL.out
        exact ⟨sl, rfl, HFIN.out _ s5 s6 sK sl⟩
       ·have r7 := e7
        have r8 := free_of_one Q5.out
        go_simp
        have r5 := one_setCell (u := .slice (some ⟨g4, 0, none⟩) (N + 1) cap4) Q5.out
        have r6 := ownsRow_setCell_other HOWN4.out (a := ⟨w.heap.size + 1 + 1, 0, none⟩) (by simp [Value.ownBlock]; omega) (.slice (some ⟨g4, 0, none⟩) (N + 1) cap4)
        have rt : (w4.setCell ⟨w.heap.size + 1 + 1, 0, none⟩ (.slice (some ⟨g4, 0, none⟩) (N + 1) cap4)).there g4 (N * 7) 7 := own_there r6
        have rK := QK.out.setCell' (p := ⟨w.heap.size + 1 + 1, 0, none⟩) (by simp) (.slice (some ⟨g4, 0, none⟩) (N + 1) cap4)
        have rl := (Below.heap_setCell w4 ⟨w.heap.size + 1 + 1, 0, none⟩ (.slice (some ⟨g4, 0, none⟩) (N + 1) cap4) l (by simp; omega)).trans QL.out
        generalize w4.setCell ⟨w.heap.size + 1 + 1, 0, none⟩ (.slice (some ⟨g4, 0, none⟩) (N + 1) cap4) = w5 at *
        refine hK' _ _ ⟨.inr trivial, fun _ => ?_⟩
        clear hK' K'
        (try simp only [Act.put, nY, nX])
        refine anyT_sp 6 rfl (fun K' hK' => ?_)
        rw [if_pos (by rfl)]
        refine wp_store_mid 52 (.tmp 51) (.tmp 47) rfl g4 (N * 7) #[.int .i64 k'.kind, .int .u32 k'.isp, .int .u32 k'.ism, .bool k'.neg, .int .i64 k'.lo, .int .i64 k'.hi, .slice A' ch'.len c'] (by rfl) (by rfl) rt pat_size (pat_one _ _ _ _ _ _ _ _ _) ?_
        refine hK' _ _ ⟨.inl (by kernel_rfl), fun _ => anyT_done (by kernel_rfl) ?_ _⟩
        simp only [Exit.inBlock]
        have s5 := (heap_setCells_other g4 _ hne4 [.int .i64 k'.kind, .int .u32 k'.isp, .int .u32 k'.ism, .bool k'.neg, .int .i64 k'.lo, .int .i64 k'.hi, .slice A' ch'.len c'] (N * 7) w5).trans r5
        have sl := (heap_setCells_other g4 _ hlg4 [.int .i64 k'.kind, .int .u32 k'.isp, .int .u32 k'.ism, .bool k'.neg, .int .i64 k'.lo, .int .i64 k'.hi, .slice A' ch'.len c'] (N * 7) w5).trans rl
        exact ⟨sl, rfl, HFIN.out _ s5 (own_push r6 H6V.out.1 rfl) (Keep.setCells g4 (by omega) _ _ _ rK) sl⟩
      rintro e3 W' ⟨⟨v, rfl⟩, hJ0⟩
      rw [HJ.out] at hJ0
      obtain ⟨L, A2, c2, -, h2, h3, h4, h5, h6, -, h8, h9⟩ := hJ0
      refine .inl ⟨h9, ?_⟩
      have hKf : Keep (fun b => b = w.heap.size + 1 + 1 ∨ b = l ∨ b = g) W1 (W'.putObj l (.loop (rc .exhausted none))) := h8.putObj (by simp) _
      have h5f : (W'.putObj l (.loop (rc .exhausted none))).heap[w.heap.size + 1 + 1]? = some (.cells #[.slice A2 (ms.length + L.length) c2] 50 (0, 0)) := (World.putObj_heap_other (by omega)).trans h5
      have h6f : (W'.putObj l (.loop (rc .exhausted none))).ownsRow (w.heap.size + 1) 52 7 (.slice A2 (ms.length + L.length) c2) (ms.length + L.length) ((ms ++ L).flatMap SE.cells) := ownsRow_putObj h6 _ h9 rfl
      generalize W'.putObj l (.loop (rc .exhausted none)) = X at *
      have H2L := hI h2; clear h2
      have H3L := hI h3; clear h3
      have H4L := hI h4; clear h4
      have H5f := hI h5f; clear h5f
      have H6f := hI h6f; clear h6f h5 h6 h9 h8
      gi_wp2
      have hkw : ∀ j, j < W1.heap.size → j ≠ w.heap.size + 1 + 1 → j ≠ l → j ≠ g → X.heap[j]? = W1.heap[j]? := fun j hj h1 h2 h3 => hKf.block j hj (by omega)
      have hBX : Below w.heap.size w X := hBW1.trans (hKf.to_below (fun k hk => by have := hB1.size; omega) (by omega))
      refine ⟨⟨cnt + 1, ms ++ L, A2, c2, mark D :: ds, ⟨by omega, rfl⟩, by omega, ⟨D, rfl, by omega, (hkw D (by omega) (by omega) (by omega) (by omega)).trans hD1, fun D' hm => ?_, HM1.out.mono fun D' hm hd => ?_⟩, ?_, ?_, ?_, ?_, ?_, hBX⟩, ?_⟩
      ·have := (Array.getElem?_eq_some_iff.1 (HM1.out.at_ D' hm).1).1; omega
      ·have hdl := (Array.getElem?_eq_some_iff.1 hd).1
       have hd2 : W1.heap[D']? = some (.deferred (some [])) := (hKW.block D' hdl (by simp)).trans hd
       have hn1 : D' ≠ w.heap.size + 1 + 1 := by
        rintro rfl
        have := H3.out
        rw [hd] at this; cases this
       have hn3 : D' ≠ g := by
        rintro rfl
        rcases HOWN1.out.2 with ⟨hx, _⟩ | ⟨g', cap', cur, hx, _, hx3, _⟩
        ·cases hx
        ·injection hx with hx
         injection hx with hx
         injection hx with hx
         subst hx
         rw [hd] at hx3; cases hx3
       exact (hkw D' (by have := hKW.size; omega) hn1 (by omega) hn3).trans hd2
      ·rw [List.length_append]; exact H5f.out
      ·rw [List.length_append]; exact H6f.out
      ·intro x hx
       rcases List.mem_append.1 hx with h | h
       ·exact HOK.out x (by simp [h])
       ·exact H4L.out x h
      ·have := H2L.out; rw [List.length_append]; omega
      ·rw [← List.map_reverse, ← HCK.out, show 40 - cnt = (39 - cnt) + 1 by omega, SE.pat, checkM, if_pos HAL.out, show 40 - (cnt + 1) = 39 - cnt by omega, List.reverse_append, List.map_append, H3L.out, List.drop_zero, HQT.out]
      ·simp [intOf]; omega
    ·have hal' : (allowedM e.k e.ch.len == 0) = false := by simpa using hal
     have hal2 : (allowedM e.k e.ch.len != 0) = true := by simpa using hal
     have hr : checkM 40 [(k, ch)] = allowedM e.k e.ch.len := by
      rw [← HCK.out, show 40 - cnt = (39 - cnt) + 1 by omega, SE.pat, checkM, if_neg hal]
     have HR := hI hr
     clear hal hr
     gi_wp2
     exact post_tmp (B := w.heap.size) Tryz.results154 (.int .i64 (allowedM e.k e.ch.len)) rfl HM1.out fun w' hw' => ⟨by rw [HR.out], hB1.trans hw'.below⟩
end Go.Proofs.YtaglfmlgbcmakaaGreatDoor
namespace Go.Proofs.YtaglfmlgbcmakaaGreatDoor
open Go.RowKit Go.Shelf
def idxM {α : Type} (p : α → Bool) : List α → Int
 | [] => -1
 | x :: l => if p x then 0 else if idxM p l < 0 then -1 else idxM p l + 1
theorem idxM_none {α : Type} (p : α → Bool) : ∀ l : List α, l.any p = false → idxM p l = -1
 | [], _ => rfl
 | x :: l, h => by
  simp only [List.any_cons, Bool.or_eq_false_iff] at h
  simp [idxM, h.1, idxM_none p l h.2]
theorem idxM_some {α : Type} (p : α → Bool) : ∀ (l : List α) (k : Nat) (x : α), l[k]? = some x → (l.take k).any p = false → p x = true → idxM p l = k
 | [], k, x, h, _, _ => by simp at h
 | y :: l, 0, x, h, _, hp => by
  obtain rfl : y = x := by simpa using h
  simp [idxM, hp]
 | y :: l, k + 1, x, h, hn, hp => by
  simp only [List.take_succ_cons, List.any_cons, Bool.or_eq_false_iff] at hn
  have := idxM_some p l k x (by simpa using h) hn.2 hp
  simp only [idxM, hn.1, this]
  rw [if_neg (by simp), if_neg (by omega)]; omega
theorem idxM_any {α : Type} (p : α → Bool) : ∀ l : List α, decide (0 ≤ idxM p l) = l.any p
 | [] => rfl
 | x :: l => by
  have ih := idxM_any p l
  simp only [idxM, List.any_cons]
  by_cases h : p x = true
  ·simp [h]
  ·have h' : p x = false := by simpa using h
   simp only [h', Bool.false_or, ← ih]
   rw [if_neg (by simp)]
   split
   ·rename_i hl; simp; omega
   ·rename_i hl; simp; omega
theorem idxSnd_c (A : Option Addr) (n c : Nat) (xs : List Snd) (F : Nat) (lb : Array Value) (p : Snd → Bool) (w : World) (hx : IsWord w A n c xs) (hE : Enters Tryz.prog F)
  (hcall : ∀ W, Below w.heap.size w W → ∀ s ∈ xs, Calls Tryz.prog F (#[sndV s.1 s.2] ++ lb) W fun e W' => e = .returned (.bool (p s)) ∧ Below W.heap.size W W') :
  Calls Tryz.prog 176 #[.slice A n c, .func (.func F) #[] lb] w fun e w' => e = .returned (.int .i64 (idxM p xs)) ∧ Below w.heap.size w w' := by
 have hm := hx.max
 have HX := hI hx; clear hx
 have HC := hI hcall; clear hcall
 unfold Enters at hE
 go_enter Tryz.func176, Tryz.ntmps176
 go_wp2
 go_loopw [5, 8] (fun _ i wr => ∃ k : Nat, k ≤ n ∧ i = .int .i64 k ∧ Hid ((xs.take k).any p = false) ∧ Below w.heap.size w wr) (fun _ i _ => n - (intOf i).toNat)
 case atStart => exact ⟨0, Nat.zero_le _, rfl, by simp [Hid], Below.refl _ _⟩
 case round =>
  obtain ⟨k, hk, rfl, HA, hB⟩ := hrel
  by_cases hlt : k < n
  ·obtain ⟨b, off, p', m', rfl, hb, hxk, hc0, hc1⟩ := (HX.out.below hB rr).at_ hlt
   have hcall := HC.out wr hB (p', m') (List.mem_of_getElem? hxk)
   have HCALL := hI hcall; clear hcall
   have HK := hI hxk; clear hxk
   by_cases hp : p (p', m') = true
   ·have hr := idxM_some p xs k (p', m') HK.out HA.out hp
    have HR := hI hr; clear hr
    have HP := hI hp; clear hp
    go_wp2_with fail
    refine HCALL.out.mono ?_
    rintro e w1 ⟨rfl, hb1⟩
    rw [HP.out]
    have hB1 := hB.trans (hb1.mono hB.size)
    clear hb1
    go_wp2
    go_ret
    exact ⟨by rw [HR.out]; rfl, hB1⟩
   ·have hp' : p (p', m') = false := by simpa using hp
    have HP := hI hp'; clear hp hp'
    go_wp2_with fail
    refine HCALL.out.mono ?_
    rintro e w1 ⟨rfl, hb1⟩
    rw [HP.out]
    have hB1 := hB.trans (hb1.mono hB.size)
    clear hb1
    go_wp2
    go_roundw
    case rel => exact ⟨k + 1, by omega, by go_num, by rw [take_snoc' xs k _ HK.out, List.any_append, HA.out]; simp [HP.out, Hid], hB1⟩
    case measure => simp [intOf]; omega
  ·obtain rfl : k = n := by omega
   have hr : idxM p xs = -1 := by
    have := HA.out
    rw [List.take_of_length_le (by rw [HX.out.len]; exact rr)] at this
    exact idxM_none p xs this
   have HR := hI hr; clear hr
   go_wp2
   go_ret
   exact ⟨by rw [HR.out]; rfl, hB⟩
theorem anySnd_c (A : Option Addr) (n c : Nat) (xs : List Snd) (F : Nat) (lb : Array Value) (p : Snd → Bool) (w : World) (hx : IsWord w A n c xs) (hE : Enters Tryz.prog F)
  (hcall : ∀ W, Below w.heap.size w W → ∀ s ∈ xs, Calls Tryz.prog F (#[sndV s.1 s.2] ++ lb) W fun e W' => e = .returned (.bool (p s)) ∧ Below W.heap.size W W') :
  Calls Tryz.prog 155 #[.slice A n c, .func (.func F) #[] lb] w fun e w' => e = .returned (.bool (xs.any p)) ∧ Below w.heap.size w w' := by
 have hcon := idxSnd_c A n c xs F lb p w hx hE hcall
 have H := hI (idxM_any p xs)
 clear hx hcall hE
 go_enter Tryz.func155, Tryz.ntmps155
 go_wp2_with (go_at_call 176; refine hcon.mono ?_; rintro e w1 ⟨rfl, hb1⟩)
 go_ret
 refine ⟨?_, hb1⟩
 show Ending.returned (.bool (decide (0 ≤ idxM p xs))) = _
 rw [H.out]
theorem relate1_c (p m : Int) (w : World) :
  Calls Tryz.prog 240 #[sndV p m] w fun e w' => e = .returned (.bool (!wvalid p m)) ∧ Below w.heap.size w w' := by
 go_enter Tryz.func240, Tryz.ntmps240
 go_wp2_with (go_at_call 188; refine (pvalid_c _ _ _).mono ?_; rintro e w1 ⟨rfl, hb1⟩; have hz1 := bsize hb1; (try simp only [World.size_alloc, World.size_drew, World.size_setCell] at hz1); have c0 := fun o => hb1.cell (p := ⟨w.heap.size, o, none⟩) sd; have f0 := fun o => hb1.frozen (p := ⟨w.heap.size, o, none⟩) sd; have hB1 : Below w.heap.size w w1 := bel; clear hb1)
 go_ret
 exact ⟨rfl, bel⟩
def existsM (n : Nat) (at_ : Int) : Int := if at_ < 0 ∨ (n : Int) < at_ then 3 else 0
theorem exists_c (A : Option Addr) (n c : Nat) (at_ : Int) (w : World) (hn : n ≤ 32) :
  Calls Tryz.prog 237 #[.slice A n c, .int .i64 at_] w fun e w' => e = .returned (.int .i64 (existsM n at_)) ∧ w = w' := by
 by_cases h1 : at_ < 0
 ·have hv : existsM n at_ = 3 := by simp [existsM, h1]
  have H := hI hv; clear hv
  go_enter Tryz.func237, Tryz.ntmps237
  go_wp2
  go_ret
  exact ⟨by rw [H.out]; rfl, rfl⟩
 ·by_cases h2 : (n : Int) < at_
  ·have hv : existsM n at_ = 3 := by simp [existsM, h2]
   have H := hI hv; clear hv
   go_enter Tryz.func237, Tryz.ntmps237
   go_wp2
   go_ret
   exact ⟨by rw [H.out]; rfl, rfl⟩
  ·have hv : existsM n at_ = 0 := by simp [existsM, h1, h2]
   have H := hI hv; clear hv
   go_enter Tryz.func237, Tryz.ntmps237
   go_wp2
   go_ret
   exact ⟨by rw [H.out]; rfl, rfl⟩
def relE (x : Nd × Fo) (ws : List Snd) : Int :=
 if checkM 40 [x] ≠ 0 then checkM 40 [x] else if 32 < ws.length then 11 else if ws.any (fun s => !wvalid s.1 s.2) then 14 else 0
def relR (x : Nd × Fo) (ws : List Snd) : List Nat := if relE x ws = 0 then relOf x.1 ws (rels ws x.2) else zeroR
theorem relE_zero {x : Nd × Fo} {ws : List Snd} (h : relE x ws = 0) : checkM 40 [x] = 0 ∧ ws.length ≤ 32 ∧ ws.any (fun s => !wvalid s.1 s.2) = false := by
 unfold relE at h
 by_cases h1 : checkM 40 [x] = 0
 ·rw [if_neg (by simp [h1])] at h
  by_cases h2 : 32 < ws.length
  ·rw [if_pos h2] at h; exact absurd h (by decide)
  ·rw [if_neg h2] at h
   cases h3 : ws.any (fun s => !wvalid s.1 s.2)
   ·exact ⟨h1, by omega, rfl⟩
   ·rw [h3, if_pos rfl] at h; exact absurd h (by decide)
 ·rw [if_pos h1] at h; exact absurd h h1
theorem relR_ok (x : Nd × Fo) (ws : List Snd) : (relR x ws).length = 33 ∧ AllSmall (relR x ws) := by
 unfold relR
 split
 ·rename_i h
  obtain ⟨h1, h2, _⟩ := relE_zero h
  have hok := (checkM_ok 40 _ rr h1).2 x (List.mem_cons_self ..)
  exact rels_ok ws h2 (.node x.1 x.2 .nil) ⟨hok.1, hok.2, trivial⟩ _ (List.mem_cons_self ..)
 ·exact ⟨rfl, zeroR_small⟩
theorem results_rel_tmp {fn : Func} {p u : Tmp} (h : fn.results = #[.cell p 266, .tmp u]) (tmps : Array Value) (w : World) (b : Nat) (r : List Nat) (v : Value) (hp : tmps.getD p undef = .pointer (some ⟨b, 0, none⟩)) (hv : tmps.getD u undef = v) (hr : RelAt w b r) :
  (results fn tmps).run Tryz.prog w = .ok (.tuple #[.agg (rarr r), v]) w := by
 have h1 := run_loadVar_row (P := Tryz.prog) w b 266 266 (rarr r) (0, 0) _ hr.1 Tryz.underlying266 rfl (rel_size hr.2)
 rw [results_cell_tmp h, hp, hv]
 simp only [asAddr, Sem.run_pure, Result.andThen_ok, h1]
theorem relate_c (k : Nd) (ch : Fo) (A0 : Option Addr) (c0 : Nat) (A : Option Addr) (n c : Nat) (ws : List Snd) (w : World) (hf : FSl w A0 ch.len c0 ch) (hw : IsWord w A n c ws) (hT : TabOK w) :
  Calls Tryz.prog 236 #[patV k A0 ch.len c0, .slice A n c] w fun e w' => e = .returned (.tuple #[.agg (rarr (relR (k, ch) ws)), .int .i64 (relE (k, ch) ws)]) ∧ Below w.heap.size w w' := by
 have hn63 := hw.max
 have HF := hI hf; clear hf
 have HW := hI hw; clear hw
 have HT := hI hT; clear hT
 go_enter Tryz.func236, Tryz.ntmps236
 go_wp2_with fail
 refine (check_c k A0 c0 ch _ (HF.out.below (B := w.heap.size) bel rr)).mono ?_
 rintro e w1 ⟨rfl, hb1⟩
 have hs1 := hb1.size
 simp only [World.size_alloc] at hs1
 have hB1 : Below w.heap.size w w1 := bel
 have h0 : w1.heap[w.heap.size]? = some (.cells #[.int .i64 k.kind, .int .u32 k.isp, .int .u32 k.ism, .bool k.neg, .int .i64 k.lo, .int .i64 k.hi, .slice A0 ch.len c0] 52 (0, 0)) := (hb1.block _ sd).trans hpt
 have hr1 : RelAt w1 (w.heap.size + 1) zeroR := ⟨(hb1.block _ sd).trans hpt, rfl⟩
 clear hb1
 have HR1 := hI hr1; clear hr1
 have H0 := hI h0; clear h0
 by_cases hck : checkM 40 [(k, ch)] = 0
 ·have hck1 : (checkM 40 [(k, ch)] != 0) = false := by rw [hck]; rfl
  have HCK := hI hck; clear hck
  have HW1 := hI (HW.out.below hB1 rr)
  by_cases h32 : 32 < n
  ·have hE : relE (k, ch) ws = 11 := by unfold relE; rw [if_neg (by simp [HCK.out]), if_pos (by rw [HW.out.len]; exact h32)]
   have hR : relR (k, ch) ws = zeroR := by unfold relR; rw [hE]; rfl
   have HE := hI hE; have HR := hI hR; clear hE hR
   go_wp2_with (refine store_rel rfl (.tmp 4) (.tmp 18) rfl (w.heap.size + 1) zeroR zeroR rfl rfl HR1.out rfl ?_; intro w2 hr2 hk2 hs2)
   refine bodyPost_ret (results_rel_tmp Tryz.results236 _ _ (w.heap.size + 1) _ (.int .i64 11) rfl rfl hr2) rfl ⟨by rw [HR.out, HE.out], keep_below hB1 hk2 (by omega) (by omega)⟩
  ·have hle : n ≤ 32 := by omega
   have hd32 : decide ((32 : Int) < (n : Int)) = false := by simp; omega
   go_wp2_with fail
   refine (anySnd_c A n c ws 240 #[] (fun s => !wvalid s.1 s.2) w1 HW1.out (enters_of Tryz.func240 (by kernel_rfl) rfl) (fun W _ s _ => relate1_c s.1 s.2 W)).mono ?_
   rintro e w2 ⟨rfl, hb2⟩
   have hB2 : Below w.heap.size w w2 := hB1.trans (hb2.mono hB1.size)
   have hs2 := hb2.size
   have HR2 := hI (HR1.out.below hb2 rr)
   have H02 := hI ((hb2.block _ (by omega)).trans H0.out)
   clear hb2
   by_cases hva : ws.any (fun s => !wvalid s.1 s.2) = true
   ·have hE : relE (k, ch) ws = 14 := by unfold relE; rw [if_neg (by simp [HCK.out]), if_neg (by rw [HW.out.len]; exact h32), if_pos hva]
    have hR : relR (k, ch) ws = zeroR := by unfold relR; rw [hE]; rfl
    have HE := hI hE; have HR := hI hR; clear hE hR
    rw [hva]
    go_wp2_with (refine store_rel rfl (.tmp 4) (.tmp 22) rfl (w.heap.size + 1) zeroR zeroR rfl rfl HR2.out rfl ?_; intro w3 hr3 hk3 hs3)
    refine bodyPost_ret (results_rel_tmp Tryz.results236 _ _ (w.heap.size + 1) _ (.int .i64 14) rfl rfl hr3) rfl ⟨by rw [HR.out, HE.out], keep_below hB2 hk3 (by omega) (by omega)⟩
   ·have hva' : ws.any (fun s => !wvalid s.1 s.2) = false := by simpa using hva
    have hE : relE (k, ch) ws = 0 := by unfold relE; rw [if_neg (by simp [HCK.out]), if_neg (by rw [HW.out.len]; exact h32), if_neg hva]
    have hR : relR (k, ch) ws = relOf k ws (rels ws ch) := by unfold relR; rw [if_pos hE]
    have HE := hI hE; have HR := hI hR; clear hE hR hva
    rw [hva']
    clear hva'
    obtain ⟨hcn, hok⟩ := checkM_ok 40 _ rr HCK.out
    have hok := hok (k, ch) (List.mem_cons_self ..)
    simp only [cntL, List.map_cons, List.map_nil, List.sum_cons, List.sum_nil] at hcn
    obtain ⟨d0, d1, d2, d3, d4, d5, d6⟩ := (⟨cell_at_heap (j := 0) H02.out rfl, cell_at_heap (j := 1) H02.out rfl, cell_at_heap (j := 2) H02.out rfl, cell_at_heap (j := 3) H02.out rfl, cell_at_heap (j := 4) H02.out rfl, cell_at_heap (j := 5) H02.out rfl, cell_at_heap (j := 6) H02.out rfl⟩ : _ ∧ _ ∧ _ ∧ _ ∧ _ ∧ _ ∧ _)
    have HOK := hI hok; clear hok
    have HL33 := hI (rels_ok ws (by rw [HW.out.len]; exact hle) (.node k ch .nil) ⟨HOK.out.1, HOK.out.2, trivial⟩ (relOf k ws (rels ws ch)) (List.mem_cons_self ..)).1
    go_wp2_with fail
    refine (compile_c k ch _ A0 _ c0 (HF.out.below hB2 rr) HOK.out.1 HOK.out.2 (by omega)).mono ?_
    rintro e w3 ⟨v, rfl, hb3, hp3⟩
    have hB3 : Below w.heap.size w w3 := hB2.trans (hb3.mono hB2.size)
    have hs3 := hb3.size
    have HR3 := hI (HR2.out.below hb3 rr)
    have hin := in_c ws A n c hle (.node k ch .nil) w3 [v] ⟨HOK.out.1, HOK.out.2, trivial⟩ hp3.to_at (HW.out.below hB3 rr) (HT.out.below hB3 rr) w3 (Below.refl _ _) 0 v (relOf k ws (rels ws ch)) rfl rfl
    clear hb3 hp3 d0 d1 d2 d3 d4 d5 d6
    rcases hin with ⟨x, rfl, hcall⟩ | ⟨x, rfl, hcall⟩ | ⟨x, rfl, hcall⟩ | ⟨x, rfl, hcall⟩ | ⟨x, rfl, hcall⟩
    all_goals
     have HCall := hI hcall; clear hcall
     go_wp2_with fail
     refine HCall.out.mono ?_
     rintro e w4 ⟨rfl, hb4⟩
     have hB4 : Below w.heap.size w w4 := hB3.trans (hb4.mono hB3.size)
     have HR4 := hI (HR3.out.below hb4 rr)
     have hs4 := hb4.size
     clear hb4
     go_wp2_with (refine store_rel rfl (.tmp 4) (.tmp 26) rfl (w.heap.size + 1) zeroR (relOf k ws (rels ws ch)) rfl rfl HR4.out HL33.out ?_; intro w5 hr5 hk5 hs5)
     exact bodyPost_ret (results_rel_tmp Tryz.results236 _ _ (w.heap.size + 1) _ (.int .i64 0) rfl rfl hr5) rfl ⟨by rw [HR.out, HE.out], keep_below hB4 hk5 (by omega) (by omega)⟩
 ·have hck1 : (checkM 40 [(k, ch)] != 0) = true := by simpa using hck
  have hck2 : (checkM 40 [(k, ch)] == 0) = false := by simpa using hck
  have hE : relE (k, ch) ws = checkM 40 [(k, ch)] := by unfold relE; rw [if_pos hck]
  have hR : relR (k, ch) ws = zeroR := by unfold relR; rw [hE, if_neg hck]
  have HE := hI hE; have HR := hI hR; clear hE hR hck
  go_wp2_with (refine store_rel rfl (.tmp 4) (.tmp 12) rfl (w.heap.size + 1) zeroR zeroR rfl rfl HR1.out rfl ?_; intro w2 hr2 hk2 hs2)
  refine bodyPost_ret (results_rel_tmp Tryz.results236 _ _ (w.heap.size + 1) _ (.int .i64 (checkM 40 [(k, ch)])) rfl rfl hr2) rfl ⟨by rw [HR.out, HE.out], keep_below hB1 hk2 (by omega) (by omega)⟩
theorem int_info : (Tryz.prog.info? 3).map (fun i => (i.zero, i.size, i.bytes)) = some (some (.int .i64 0), 1, 8) := by kernel_rfl
def ints (l : List Nat) : List Value := l.map fun (a : Nat) => Value.int .i64 (a : Int)
theorem ints_len (l : List Nat) : (ints l).length = l.length := by simp [ints]
theorem append_int {ops : Array Oper} {rest : List Oper} {o : Oper} {a : Act} {w : World} {Q : Exit → Act → World → Prop} (hgd : o.guard = none) (s x : Operand)
  (ho : o.op = .call { callee := .builtin .append, args := #[s, x], argTypes := #[36, 36] })
  (base : Nat) (v : Value) (n : Nat) (xs : List Value) (hs : a.eval s = v) (hown : w.ownsRow base 3 1 v n xs)
  (ad : Addr) (c : Nat) (y : Value) (hx : a.eval x = .slice (some ad) 1 c) (hr : ∀ j u, [y][j]? = some u → w.cell? (ad.add j) = some u) (hy : y.oneCell' = true) (hl : n + 1 ≤ 4096) (hbase : base ≤ w.heap.size)
  (h : ∀ v' w', w'.ownsRow base 3 1 v' (n + 1) (xs ++ [y]) → w.grownBy w' v.ownBlock → (v'.ownBlock = v.ownBlock ∨ v'.ownBlock = some w.heap.size) →
   wpList Tryz.prog ops Q rest (a.put o.dst v') w') : wpList Tryz.prog ops Q (o :: rest) a w := by
 obtain ⟨i0, hi, hz0, hz1, hz2⟩ := info_parts int_info
 exact wpList_append_own_at w hgd s x 36 ho base 3 i0 _ 1 8 Tryz.underlying36 hi hz0 hz1 hz2 rfl (by decide) v n xs hs hown ad 1 c [y] hx rfl hr
  (by intro u hu; simp at hu; subst hu; exact hy) (by unfold maxLen; omega) (by omega) hbase fun v' w' h1 h2 _ h4 => h v' w' h1 h2 h4
theorem bit_at (s m : Nat) (h : Small s) : (bits BinOp.and IntKind.u64 ((s : Int) / 2 ^ m) 1 == 1) = s.testBit m := by
 have e : ((s : Int) / 2 ^ m) = ((s / 2 ^ m : Nat) : Int) := by simp
 unfold Small at h
 rw [e]
 have h2 : s / 2 ^ m < 8589934592 := Nat.lt_of_le_of_lt (Nat.div_le_self _ _) h
 rw [Nat.testBit_eq_decide_div_mod_eq]
 generalize s / 2 ^ m = t at *
 have h3 := u64_and_nat t 1 (by omega) (by omega)
 rw [show ((1 : Nat) : Int) = 1 from rfl] at h3
 rw [h3, Nat.and_one_is_mod]
 have h4 : t % 2 = 0 ∨ t % 2 = 1 := by omega
 rcases h4 with h4 | h4 <;> rw [h4] <;> rfl
def RetInts (w : World) (l : List Nat) (er : Int) (e : Ending) (w' : World) : Prop :=
 ∃ A c, e = .returned (.tuple #[.slice A l.length c, .int .i64 er]) ∧ Cells w' A l.length c 1 (ints l) ∧ Below w.heap.size w w'
def atE (x : Nd × Fo) (ws : List Snd) (at_ : Int) : Int := if relE x ws = 0 then existsM ws.length at_ else relE x ws
def beginsM (x : Nd × Fo) (ws : List Snd) (at_ : Int) : List Nat :=
 if atE x ws at_ = 0 then (List.range (ws.length + 1)).filter fun a => ((relR x ws).getD a 0).testBit at_.toNat else []
theorem begins_c (k : Nd) (ch : Fo) (A0 : Option Addr) (c0 : Nat) (A : Option Addr) (n c : Nat) (ws : List Snd) (at_ : Int) (w : World) (hf : FSl w A0 ch.len c0 ch) (hw : IsWord w A n c ws) (hT : TabOK w) :
  Calls Tryz.prog 226 #[patV k A0 ch.len c0, .slice A n c, .int .i64 at_] w (RetInts w (beginsM (k, ch) ws at_) (atE (k, ch) ws at_)) := by
 have hn63 := hw.max
 have HF := hI hf; clear hf
 have HW := hI hw; clear hw
 have HT := hI hT; clear hT
 go_enter Tryz.func226, Tryz.ntmps226
 go_wp2_with fail
 refine (relate_c k ch A0 c0 A n c ws _ (HF.out.below (B := w.heap.size) bel rr) (HW.out.below (B := w.heap.size) bel rr) (HT.out.below (B := w.heap.size) bel rr)).mono ?_
 rintro e w1 ⟨rfl, hb1⟩
 have hs1 := hb1.size
 simp only [World.size_alloc] at hs1
 have hB1 : Below w.heap.size w w1 := bel
 clear hb1
 have HL33 := hI (relR_ok (k, ch) ws).1
 have HSM := hI (relR_ok (k, ch) ws).2
 by_cases hE : relE (k, ch) ws = 0
 ·have hn32 : n ≤ 32 := by have := (relE_zero hE).2.1; rw [HW.out.len] at this; exact this
  have hE1 : (relE (k, ch) ws == 0) = true := by rw [hE]; rfl
  have hE2 : (relE (k, ch) ws != 0) = false := by rw [hE]; rfl
  have HE := hI hE; clear hE
  go_wp2_with (refine store_rel rfl (.tmp 8) (.tmp 16) rfl w1.heap.size zeroR (relR (k, ch) ws) rfl rfl ?hr HL33.out ?hc)
  case hr => exact ⟨hpt, rfl⟩
  case hc =>
   intro w2 hr2 hk2 hs2
   have hB2 : Below w.heap.size w w2 := keep_below (hB1.alloc hB1.size _) hk2 (by omega) sd
   have hs2' := Nat.le_of_eq hs2.symm; clear hs2 hk2
   go_wp2_with fail
   refine (exists_c A n c at_ _ hn32).mono ?_
   rintro e w3 ⟨rfl, rfl⟩
   have HR2 := hI hr2; clear hr2
   by_cases hx : existsM n at_ = 0
   ·have hat : atE (k, ch) ws at_ = 0 := by unfold atE; rw [if_pos HE.out, HW.out.len, hx]
    have hx1 : (existsM n at_ != 0) = false := by rw [hx]; rfl
    have h0 : 0 ≤ at_ ∧ at_ ≤ n := by unfold existsM at hx; split at hx <;> simp at *; omega
    obtain ⟨m, rfl⟩ : ∃ m : Nat, at_ = m := ⟨at_.toNat, by omega⟩
    have hm32 : m ≤ 32 := by omega
    have HAT := hI hat; clear hat hx h0
    have hbg : beginsM (k, ch) ws m = (List.range (n + 1)).filter fun a => ((relR (k, ch) ws).getD a 0).testBit m := by unfold beginsM; rw [if_pos HAT.out, HW.out.len]; rfl
    have HBG := hI hbg; clear hbg
    obtain ⟨f, hf⟩ : ∃ f : Nat → Bool, f = fun a => ((relR (k, ch) ws).getD a 0).testBit m := ⟨_, rfl⟩
    have HFD := hI hf; clear hf
    have HB2 := hI hB2; clear hB2
    have hw1l : w1.heap.size < w2.heap.size := HR2.out.lt
    go_wp2
    go_loopw [10, 11, 29] (fun l _ i wr => ∃ (j q : Nat), j ≤ n + 1 ∧ i = .int .i64 j ∧ q ≤ j ∧ Hid (wr.ownsRow w2.heap.size 3 1 l q (ints ((List.range j).filter f))) ∧ Hid (RelAt wr w1.heap.size (relR (k, ch) ws)) ∧
     Below w2.heap.size w2 wr) (fun _ _ i _ => n + 1 - (intOf i).toNat)
    case atStart => exact ⟨0, 0, by omega, rfl, by omega, World.ownsRow_nil _ _ _ _, HR2, Below.refl _ _⟩
    case round =>
     obtain ⟨j, q, hj, rfl, hq, hown, hr, hB⟩ := hrel
     have hBs := hB.size
     by_cases hlt : j < n + 1
     ·obtain ⟨s, hs⟩ : ∃ s, (relR (k, ch) ws)[j]? = some s := ⟨(relR (k, ch) ws)[j]'(by have := hr.out.2; omega), List.getElem?_eq_getElem _⟩
      have hc := hr.out.get hs
      have hsm := HSM.out s (List.mem_of_getElem? hs)
      have hfj : f j = s.testBit m := by rw [HFD.out]; show ((relR (k, ch) ws).getD j 0).testBit m = _; rw [List.getD_eq_getElem?_getD, hs]; rfl
      have HFJ := hI hfj; clear hfj hs
      have HSMS := hI hsm; clear hsm
      obtain ⟨A1, c1, rfl⟩ := own_form hown.out
      have h33 : (j : Int) < 33 := by omega
      have hbt := bit_at s m HSMS.out
      rw [← HFJ.out] at hbt
      by_cases hf : f j = true
      ·rw [hf] at hbt
       have HF1 := hI hf; clear hf
       go_wp2_with (at_builtin; refine append_int rfl (.tmp 39) (.tmp 41) rfl w2.heap.size (.slice A1 q c1) q (ints ((List.range j).filter f)) rfl ?ho ⟨wr.heap.size, 0, none⟩ 1 (.int .i64 j) rfl ?ha rfl ?hl ?hz ?hc)
       case ho => exact hown.out.alloc _
       case ha => exact cell_one_new _ _ _
       case hl => omega
       case hz => simp; omega
       case hc =>
        intro v' w4 hown4 hg4 _
        go_wp2
        go_roundw
        case rel =>
         refine ⟨j + 1, q + 1, by omega, by go_num, by omega, ?_, ?_, own_below (hB.alloc hB.size _) (hown.out.alloc _) hg4 rr (by simp; omega)⟩
         ·show w4.ownsRow _ _ _ _ _ _
          rw [List.range_succ, List.filter_append]
          have : ([j].filter f) = [j] := by simp [HF1.out]
          rw [this]
          simpa [ints] using hown4
         ·have hl := hr.out.alloc (.cells #[.int .i64 j] 3)
          refine ⟨(hg4.block _ hl.lt (fun e => ?_)).trans hl.1, hl.2⟩
          have := (hown.out.lt _ e.symm).1; omega
        case measure => simp [intOf]; omega
      ·have hf' : f j = false := by simpa using hf
       rw [hf'] at hbt
       have HF1 := hI hf'; clear hf hf'
       go_wp2
       go_roundw
       case rel =>
        refine ⟨j + 1, q, by omega, by go_num, by omega, ?_, hr, hB⟩
        show wr.ownsRow _ _ _ _ _ _
        rw [List.range_succ, List.filter_append]
        have : ([j].filter f) = [] := by simp [HF1.out]
        rw [this, List.append_nil]
        exact hown.out
       case measure => simp [intOf]; omega
     ·obtain rfl : j = n + 1 := by omega
      obtain ⟨A1, c1, rfl⟩ := own_form hown.out
      have hq2 := hown.out.1
      rw [ints_len, Nat.mul_one] at hq2
      go_wp2
      go_ret2
      refine ⟨A1, c1, ?_, ?_, HB2.out.trans (hB.mono HB2.out.size)⟩
      ·rw [HAT.out, HBG.out, ← HFD.out, hq2]; rfl
      ·rw [HBG.out, ← HFD.out, hq2]
       exact Cells.of_own hown.out (by decide)
   ·have hat : atE (k, ch) ws at_ ≠ 0 := by unfold atE; rw [if_pos HE.out, HW.out.len]; exact hx
    have hat2 : atE (k, ch) ws at_ = existsM n at_ := by unfold atE; rw [if_pos HE.out, HW.out.len]
    have hbg : beginsM (k, ch) ws at_ = [] := by unfold beginsM; rw [if_neg hat]
    have hx1 : (existsM n at_ != 0) = true := by simpa using hx
    have HX := hI hat2; have HBG := hI hbg
    clear hat hat2 hbg hx
    go_wp2
    go_ret2
    exact ⟨none, 0, by rw [HX.out, HBG.out]; rfl, by rw [HBG.out]; exact Cells.nil _ _, hB2⟩
 ·have hat2 : atE (k, ch) ws at_ = relE (k, ch) ws := by unfold atE; rw [if_neg hE]
  have hbg : beginsM (k, ch) ws at_ = [] := by unfold beginsM; rw [hat2, if_neg hE]
  have hE1 : (relE (k, ch) ws == 0) = false := by simpa using hE
  have hE2 : (relE (k, ch) ws != 0) = true := by simpa using hE
  have HX := hI hat2; have HBG := hI hbg
  clear hat2 hbg hE
  go_wp2_with (refine store_rel rfl (.tmp 8) (.tmp 16) rfl w1.heap.size zeroR (relR (k, ch) ws) rfl rfl ?hr HL33.out ?hc)
  case hr => exact ⟨hpt, rfl⟩
  case hc =>
   intro w2 hr2 hk2 hs2
   have hB2 : Below w.heap.size w w2 := keep_below (hB1.alloc hB1.size _) hk2 (by omega) sd
   have hs2' := Nat.le_of_eq hs2.symm; clear hs2 hk2
   go_wp2
   go_ret2
   exact ⟨none, 0, by rw [HX.out, HBG.out]; rfl, by rw [HBG.out]; exact Cells.nil _ _, hB2⟩
end Go.Proofs.YtaglfmlgbcmakaaGreatDoor

/-
  inverse.words and its iterator: the words of an alphabet with so many sounds, in order.
  inverse.sources and its iterator: the words that are searched and become a word, in order.
  The iterator of inverse.sources.
  inverse.BackAll.
  inverse.Back.
-/
import Derived.Test.YtlgliddhideflaaGreatDoorH03
set_option linter.all false
set_option maxRecDepth 100000
set_option maxHeartbeats 4000000
namespace Go.Proofs.YtlgliddhideflaaGreatDoor
open Go.RowKit Go.Shelf
attribute [local go_sem] Oper.semAt_some
def plC (q : List Nat) : Array Value := ((q ++ List.replicate (6 - q.length) 0).map fun d : Nat => Value.int .i64 d).toArray
theorem plC_at {q : List Nat} {i d : Nat} (h : q[i]? = some d) : (plC q)[i]? = some (.int .i64 d) := by
 have hi := (List.getElem?_eq_some_iff.1 h).1
 simp only [plC, List.getElem?_toArray, List.getElem?_map]
 rw [List.getElem?_append_left hi, h]; rfl
theorem plC_set (q : List Nat) (i d : Nat) (h : i < q.length) : (plC q).setIfInBounds i (.int .i64 d) = plC (q.set i d) := by
 unfold plC
 rw [List.setIfInBounds_toArray, ← List.map_set, List.set_append_left _ _ h, List.length_set]
theorem plC_zero (k : Nat) (hk : k ≤ 6) : plC (List.replicate k 0) = #[.int .i64 0, .int .i64 0, .int .i64 0, .int .i64 0, .int .i64 0, .int .i64 0] := by
 unfold plC
 rw [List.length_replicate, List.replicate_append_replicate, show k + (6 - k) = 6 by omega]; rfl
def decP (w : World) (b k : Nat) : List Nat := (List.range k).map fun j => match w.cell? ⟨b, j, none⟩ with | some (.int _ v) => v.toNat | _ => 0
theorem decP_eq {w : World} {b k : Nat} {p : List Nat} {t : TypeId} (h : w.heap[b]? = some (.cells (plC p) t (0, 0))) (hp : p.length = k) : decP w b k = p := by
 subst hp
 apply List.ext_getElem?
 intro j
 unfold decP
 rw [List.getElem?_map]
 rcases Nat.lt_or_ge j p.length with hj | hj
 ·have h1 : p[j]? = some p[j] := List.getElem?_eq_getElem hj
  rw [List.getElem?_range hj, Option.map_some, cell_at_heap h (plC_at h1), h1]
  simp
 ·rw [List.getElem?_eq_none (by simpa using hj), List.getElem?_eq_none hj]; rfl
structure WordsUse (lr bn bs : Nat) (A : Option Addr) (n c : Nat) (ss : List Snd) (k B : Nat) (J : Nat → (Nat → Prop) → World → Prop) (Jx : World → Prop) : Prop where
 hB : ∀ i T W, J i T W → B ≤ W.heap.size
 hlt : ∀ i T W, J i T W → ∀ b, T b → b < W.heap.size
 hst : ∀ i T W W', J i T W → Keep (fun b => B ≤ b ∧ ¬ T b) W W' → J i T W'
 hrd : ∀ i T W, J i T W → W.heap[bs]? = some (.cells #[.slice A n c] 32 (0, 0)) ∧ W.heap[bn]? = some (.cells #[.int .i64 k] 3 (0, 0)) ∧ IsWord W A n c ss
 hy : ∀ i T W A' c' x, (wordsM (alphaM ss) k)[i]? = some x → IsWord W A' k c' x → (∀ ad, A' = some ad → B ≤ ad.block ∧ ¬ T ad.block) → J i T W → YieldAt Fence.wide 0 Tryz.prog lr #[.slice A' k c'] W (fun e W'' =>
  (e = .returned (.bool true) ∧ ∃ T', J (i + 1) T' W'' ∧ Keep T W W'' ∧ ∀ b, T' b → T b ∨ W.heap.size ≤ b) ∨ (e = .returned (.bool false) ∧ Jx W''))
theorem words1_iter (m lr bn bs : Nat) (hm : 1 ≤ m) (A : Option Addr) (n c : Nat) (ss : List Snd) (k B : Nat) (W : World) (J : Nat → (Nat → Prop) → World → Prop) (Jx : World → Prop) (T0 : Nat → Prop)
  (H : WordsUse lr bn bs A n c ss k B J Jx) (h0 : J 0 T0 W) (hn : n ≤ 5) (hk : k ≤ 6) (hd : ss.Nodup) :
  CallsIn Fence.wide m Tryz.prog 189 #[.func (.yield lr) #[] #[], .pointer (some ⟨bn, 0, none⟩), .pointer (some ⟨bs, 0, none⟩)] W fun e W' =>
   (∃ v, e = .returned v) ∧ ((∃ T, J (wordsM (alphaM ss) k).length T W') ∨ Jx W') := by
 have hT0 := H.hlt _ _ _ h0
 have hB0 := H.hB _ _ _ h0
 obtain ⟨r1, r2, r3⟩ := H.hrd _ _ _ h0
 have e1 := cell_of_one r2
 have e2 := cell_of_one r1
 have hbs := lt_of_block r1
 have hbn := lt_of_block r2
 have hsl := r3.len
 have HSL := hI hsl; clear hsl
 have hal : (alphaM ss).length = n := (alpha_len hd).trans HSL.out
 have HAL := hI hal; clear hal
 have hso := fun X (hX : Below W.heap.size W X) => sortedSnd_c X.heap.size A n c ss (X.alloc (.cells #[.slice A n c] 32)) (heap_new_at rfl) (r3.below (B := W.heap.size) (hX.alloc hX.size _) rr) hn hd
 have HSO := hI hso; clear hso
 have HU := hI H; clear H
 have H0 := hI h0; clear h0
 clear r1 r2 r3
 have HD := hI hd; clear hd
 refine callsIn_of_wp Tryz.func189 rfl trivial ?_
 simp only [Tryz.ntmps189, List.size_toArray, List.length_cons, List.length_nil, Nat.reduceAdd, Nat.reduceSub, Array.replicate_succ, Array.replicate_zero, List.push_toArray, List.append_toArray, List.nil_append, List.cons_append]
 by_cases hz : 0 < k ∧ n = 0
 ·obtain ⟨hk0, rfl⟩ := hz
  have hk1 : (0 : Int) < (k : Int) := by omega
  gi_wp2
  refine bodyPost_ret (results_none rfl _ _ _) rfl ⟨⟨_, rfl⟩, .inl ⟨T0, ?_⟩⟩
  have h1 : (wordsM (alphaM ss) k).length = 0 := by rw [words_len, HAL.out]; exact Nat.zero_pow hk0
  rw [h1]; exact H0.out
 have hmk : ∀ w : World, (Instr.makeSlice 32 (.int .i64 (k : Int)) (.int .i64 (k : Int))).run Tryz.prog w = _ := run_make_word k (by omega)
 have HZ := hI hz; clear hz
 by_cases hk0 : 0 < k
 ·have hk1 : (0 : Int) < (k : Int) := by omega
  have hn0 : ((n : Int) == 0) = false := by have := HZ.out; simp; omega
  gi_wp2
  clear hk1 hn0
  refine ⟨trivial, ?_⟩
  refine (callsIn_wide.2 (values_c A n c W)).mono ?_
  rintro e w1 ⟨rfl, rfl⟩
  gi_wp2
  refine ⟨trivial, ?_⟩
  refine (callsIn_wide.2 (HSO.out W (Below.refl _ _))).mono ?_
  rintro e w2 ⟨A2, c2, rfl, hl2, hb2, hf2⟩
  have hB2 : Below W.heap.size W w2 := ((Below.refl W.heap.size W).alloc rr _).trans (hb2.mono (by simp))
  have e1 := (hB2.cell (p := ⟨bn, 0, none⟩) (lt_of_block (HU.out.hrd _ _ _ H0.out).2.1)).trans e1
  have hB2s := hB2.size
  have hbn2 : bn < w2.heap.size := Nat.lt_of_lt_of_le hbn hB2s
  have HL2 := hI hl2
  have HF2 := hI (show ∀ ad, A2 = some ad → W.heap.size ≤ ad.block from fun ad had => by have := hf2 ad had; simp at this; omega)
  have HJ2 := hI (HU.out.hst _ _ _ _ H0.out (show Keep (fun b => B ≤ b ∧ ¬ T0 b) W w2 from keep_of_below hB2))
  clear hl2 hb2 hf2 hB2 e2
  gi_wp2
  rw [← plC_zero k hk]
  obtain ⟨bp, hbp⟩ : ∃ bp, bp = w2.heap.size := ⟨_, rfl⟩
  have hA2 : 0 < n → ∀ ad, A2 = some ad → ¬ T0 ad.block ∧ ad.block < bp := fun hn0 ad had => by
   obtain ⟨b, off, hb, hlt, _⟩ := HL2.out.2.2.2.2 hn0
   have h1 := HF2.out ad had
   rw [had] at hb; injection hb with hb; subst hb
   simp only at h1 hlt ⊢
   exact ⟨fun h => by have := hT0 _ h; omega, by omega⟩
  have HA2 := hI hA2; clear hA2
  have x1 : ((w2.alloc (.cells (plC (List.replicate k 0)) 226)).alloc (.cells (wcells (List.replicate k (0, 0))).toArray 24)).heap[w2.heap.size]? = some (.cells (plC (List.replicate k 0)) 226 (0, 0)) := hpt
  have x2 : ((w2.alloc (.cells (plC (List.replicate k 0)) 226)).alloc (.cells (wcells (List.replicate k (0, 0))).toArray 24)).heap[w2.heap.size + 1]? = some (.cells (wcells (List.replicate k (0, 0))).toArray 24 (0, 0)) := hpt
  have x3 : Below w2.heap.size w2 ((w2.alloc (.cells (plC (List.replicate k 0)) 226)).alloc (.cells (wcells (List.replicate k (0, 0))).toArray 24)) := bel
  rw [← hbp] at x1 x2 ⊢
  generalize (w2.alloc (.cells (plC (List.replicate k 0)) 226)).alloc (.cells (wcells (List.replicate k (0, 0))).toArray 24) = V at *
  have hJ3 := HU.out.hst _ _ _ _ HJ2.out (show Keep (fun b => B ≤ b ∧ ¬ T0 b) w2 V from keep_of_below x3)
  have HJ3 := hI hJ3
  have HL3 := hI (HL2.out.below x3 rr)
  have X1 := hI x1
  have X2 := hI x2
  have hbB : B ≤ bp ∧ W.heap.size ≤ bp := by omega
  have HBP := hI hbp
  clear hbp x1 x2 x3 hJ3 HJ2 HL2 e1 hmk hbn2 hB2s
  gi_loopw [7] (fun _ wr => ∃ (p : List Nat) (T : Nat → Prop) (x : List Snd), Hid (p.length = k ∧ ∀ d ∈ p, d < n) ∧ Hid (x.length = k) ∧ Hid (J (digN n p) T wr) ∧ Hid (wr.heap[bp]? = some (.cells (plC p) 226 (0, 0))) ∧
    Hid (wr.heap[bp + 1]? = some (.cells (wcells x).toArray 24 (0, 0))) ∧ Hid (¬ T bp ∧ ¬ T (bp + 1)) ∧ Hid (IsWord wr A2 n c2 (alphaM ss)) ∧ Hid (0 < n → ∀ ad, A2 = some ad → ¬ T ad.block ∧ ad.block < bp))
   (fun _ wr => n ^ k - digN n (decP wr bp k))
  case atStart =>
   refine ⟨List.replicate k 0, T0, List.replicate k (0, 0), ⟨by simp, fun d hd => ?_⟩, (by simp : (List.replicate k ((0, 0) : Snd)).length = k), ?_, X1, X2, ⟨fun h => by have := hT0 _ h; omega, fun h => by have := hT0 _ h; omega⟩, HL3, HA2⟩
   ·have h1 := List.eq_of_mem_replicate hd
    have h2 : 0 < k := by rcases Nat.eq_zero_or_pos k with h | h; · subst h; simp at hd
                          ·exact h
    have := HZ.out; omega
   ·rw [digN_zero]; exact HJ3
  case round =>
   clear X1 X2 HL3 HA2 HJ3
   obtain ⟨p, T, x, hp, hx, HJ, hh1, hh2, hT, hl, hA⟩ := hrel
   obtain ⟨q1, q2, q3⟩ := HU.out.hrd _ _ _ HJ.out
   have e1r := cell_of_one q2
   have Q2 := hI q2
   clear q1 q2 q3
   gi_wp2
   obtain ⟨wo, rfl⟩ : ∃ wo : World, wo = wr := ⟨_, rfl⟩
   clear e1r
   gi_loopw [7, 22] (fun _ i wr => ∃ (j : Nat) (y : List Snd), i = .int .i64 j ∧ j ≤ k ∧ Hid (y.length = k ∧ y.take j = (digW (alphaM ss) p).take j) ∧ Hid (wr.heap[bp + 1]? = some (.cells (wcells y).toArray 24 (0, 0))) ∧ Hid (Keep (fun b => b = bp + 1) wo wr))
    (fun _ i _ => k - (intOf i).toNat)
   case atStart => exact ⟨0, x, rfl, Nat.zero_le _, ⟨hx.out, by simp⟩, hh2, Keep.refl _ _⟩
   case round =>
    obtain ⟨j, y, rfl, hj, hy, hby, hkp⟩ := hrel
    by_cases hjk : j < k
    ·have hjk' : (j : Int) < (k : Int) := by omega
     obtain ⟨d, hd⟩ : ∃ d, p[j]? = some d := ⟨p[j]'(by rw [hp.out.1]; exact hjk), List.getElem?_eq_getElem _⟩
     have hdn : d < n := hp.out.2 d (List.mem_of_getElem? hd)
     have hn0 : 0 < n := by omega
     have hbw := lt_of_block hby.out
     have hbpn : wr.heap[bp]? = some (.cells (plC p) 226 (0, 0)) := (hkp.out.block _ (lt_of_block hh1.out) (by omega)).trans hh1.out
     have c1 := cell_at_heap hbpn (plC_at hd)
     have hlk := hl.out.keep hkp.out (fun hn0 ad had h => by have := (hA.out hn0 ad had).2; omega)
     obtain ⟨b3, off3, p', q', rfl, hb3, hxk, hc0, hc1⟩ := hlk.at_ hdn
     obtain ⟨⟨yp, yq⟩, hyj⟩ : ∃ z, y[j]? = some z := ⟨y[j]'(by rw [hy.out.1]; exact hjk), List.getElem?_eq_getElem _⟩
     have hz0 : (wcells y)[j * 2]? = some (.int .u32 yp) ∧ (wcells y)[j * 2 + 1]? = some (.int .u32 yq) := by
      rw [← wcells_sndC]
      exact ⟨flat_at sndC 2 sndC_len y j _ hyj 0 _ rfl, flat_at sndC 2 sndC_len y j _ hyj 1 _ rfl⟩
     have o0 := cell_at_heap (j := j * 2) hby.out (by simpa using hz0.1)
     have o1 := cell_at_heap (j := j * 2 + 1) hby.out (by simpa using hz0.2)
     have f0 : wr.frozen? ⟨bp + 1, j * 2, none⟩ = false := by simp [World.frozen?, hby.out]
     have f1 : wr.frozen? ⟨bp + 1, j * 2 + 1, none⟩ = false := by simp [World.frozen?, hby.out]
     have HXK := hI hxk
     have HD := hI hd
     clear hz0 hyj hlk hbpn hxk hd
     have hd1 : (y.set j (p', q')).length = k ∧ (y.set j (p', q')).take (j + 1) = (digW (alphaM ss) p).take (j + 1) := by
      refine ⟨by rw [List.length_set]; exact hy.out.1, ?_⟩
      have h1 : (digW (alphaM ss) p)[j]? = some (p', q') := by
       unfold digW
       rw [List.getElem?_map, HD.out, Option.map_some, List.getD_eq_getElem?_getD, HXK.out]; rfl
      have h2 : (y.set j (p', q'))[j]? = some (p', q') := by rw [List.getElem?_set_self (by rw [hy.out.1]; exact hjk)]
      rw [take_snoc' _ j _ h1, take_snoc' _ j _ h2, List.take_set_of_le rr, hy.out.2]
     have HD1 := hI hd1; clear hd1
     have hst := heap_setCell_same (o := j * 2 + 1) (u := .int .u32 q') (heap_setCell_same (o := j * 2) (u := .int .u32 p') hby.out)
     rw [wcells_set y j p' q' (by rw [hy.out.1]; exact hjk)] at hst
     have HST := hI hst; clear hst
     gi_wp2
     go_roundw
     case rel => exact ⟨j + 1, y.set j (p', q'), by go_num, by omega, HD1, HST, (hkp.out.setCell (p := ⟨bp + 1, j * 2, none⟩) rfl _).setCell (p := ⟨bp + 1, j * 2 + 1, none⟩) rfl _⟩
     case measure => simp [intOf]; omega
    ·obtain rfl : k = j := by omega
     have hyw : y = digW (alphaM ss) p := by
      have h1 := hy.out.2
      rw [List.take_of_length_le (by rw [hy.out.1]; exact rr), List.take_of_length_le (by simp [digW, hp.out.1])] at h1
      exact h1
     have hwx : (wordsM (alphaM ss) k)[digN n p]? = some y := by
      have h := words_at (alphaM ss) k p hp.out.1 (by rw [HAL.out]; exact hp.out.2)
      rw [HAL.out] at h
      rw [hyw]; exact h
     have hJw : J (digN n p) T wr := HU.out.hst _ _ _ _ HJ.out (hkp.out.mono (fun b hb => by subst hb; exact ⟨by omega, hT.out.2⟩))
     have hiw : IsWord wr (some ⟨bp + 1, 0, none⟩) k k y := word_row hby.out hy.out.1 (by unfold maxLen; omega)
     obtain ⟨fn, tmps, assign, body, hyr, hR⟩ := yield_any (m' := m - 1) (HU.out.hy _ T _ _ _ y hwx hiw (fun ad had => by cases had; exact ⟨by simp only; omega, hT.out.2⟩) hJw)
     have HR := hI hR
     have hlk := hI (hl.out.keep hkp.out (fun hn0 ad had h => by have := (hA.out hn0 ad had).2; omega))
     have hbpn := hI ((hkp.out.block _ (lt_of_block hh1.out) (by omega)).trans hh1.out)
     have HDEC := hI (decP_eq hh1.out hp.out.1)
     clear hR hyw hwx hJw hiw hh1 hh2 hl
     gi_wp2
     refine HR.out.mono ?_
     rintro e W4 (⟨rfl, T', hJ', hKp, hT'⟩ | ⟨rfl, hx⟩)
     ·have g1 := (hKp.block _ (lt_of_block hbpn.out) hT.out.1).trans hbpn.out
      have g2 := (hKp.block _ (lt_of_block hby.out) hT.out.2).trans hby.out
      have g3 := hlk.out.keep hKp (fun hn0 ad had => (hA.out hn0 ad had).1)
      have g4 : 0 < n → ∀ ad, A2 = some ad → ¬ T' ad.block ∧ ad.block < bp := fun hn0 ad had => ⟨fun h => (hT' _ h).elim (hA.out hn0 ad had).1 (fun h2 => by have := (hA.out hn0 ad had).2; have := lt_of_block hbpn.out; omega), (hA.out hn0 ad had).2⟩
      have g5 : ¬ T' bp ∧ ¬ T' (bp + 1) := ⟨fun h => (hT' _ h).elim hT.out.1 (fun h2 => by have := lt_of_block hbpn.out; omega), fun h => (hT' _ h).elim hT.out.2 (fun h2 => by have := lt_of_block hby.out; omega)⟩
      obtain ⟨q1, q2, q3⟩ := HU.out.hrd _ _ _ hJ'
      have e1r := cell_of_one q2
      have G1 := hI g1; have G2 := hI g2; have G3 := hI g3; have G4 := hI g4; have G5 := hI g5
      have HJ' := hI hJ'
      have HYL := hI hy.out.1
      clear q1 q2 q3 g1 g2 g3 g4 g5 hJ' hKp hT' hyr hlk hbpn hby hkp hy HR hA hT
      gi_wp2
      clear e1r
      gi_loopw [8] (fun i wr => ∃ (z : Int) (i0 : Nat) (q : List Nat), i = .int .i64 z ∧ z = (i0 : Int) - 1 ∧ i0 ≤ k ∧ Hid (Back n k p i0 q) ∧ Hid (wr.heap[bp]? = some (.cells (plC q) 226 (0, 0))) ∧ Hid (Keep (fun b => b = bp) W4 wr))
       (fun i _ => (intOf i + 1).toNat)
      case atStart => exact ⟨(k : Int) - 1, k, p, rfl, rfl, rr, Back.start hp.out.1, G1, Keep.refl _ _⟩
      case round =>
       obtain ⟨z, i0, q, rfl, hz, hi0, hbk, hbp', hkp'⟩ := hrel
       have hJn := hI (HU.out.hst _ _ _ _ HJ'.out (hkp'.out.mono (fun b hb => by subst hb; exact ⟨by omega, G5.out.1⟩) : Keep (fun b => B ≤ b ∧ ¬ T' b) W4 wr))
       rcases Nat.eq_zero_or_pos i0 with hi1 | hi1
       ·have hz1 : z = -1 := by omega
        subst hz1
        subst hi1
        have hlast := hbk.out.last
        have HLA := hI hlast; clear hlast hz
        gi_wp2
        refine bodyPost_ret (results_none rfl _ _ _) rfl ⟨⟨_, rfl⟩, .inl ⟨T', ?_⟩⟩
        rw [words_len, HAL.out, ← HLA.out]; exact hJn.out
       ·obtain ⟨i1, rfl⟩ : ∃ i1, i0 = i1 + 1 := ⟨i0 - 1, by omega⟩
        have hz1 : z = (i1 : Int) := by omega
        subst hz1
        have hik : i1 < k := by omega
        obtain ⟨d, hd⟩ : ∃ d, p[i1]? = some d := ⟨p[i1]'(by rw [hp.out.1]; exact hik), List.getElem?_eq_getElem _⟩
        have hdn : d < n := hp.out.2 d (List.mem_of_getElem? hd)
        have hqd : q[i1]? = some d := (hbk.out.digit hp.out.1).trans hd
        have hql : i1 < q.length := (List.getElem?_eq_some_iff.1 hqd).1
        have c1 := cell_at_heap hbp'.out (plC_at hqd)
        have f1 : wr.frozen? ⟨bp, i1, none⟩ = false := by simp [World.frozen?, hbp'.out]
        have s1 := heap_setCell_same (o := i1) (u := .int .i64 ((d + 1 : Nat) : Int)) hbp'.out
        rw [plC_set q i1 (d + 1) hql] at s1
        have S1 := hI s1
        have HD := hI hd; have HQD := hI hqd
        clear s1 hd hqd hz
        rw [show ((d + 1 : Nat) : Int) = (d : Int) + 1 by omega] at S1
        have hK9 := hI (hkp'.out.setCell (p := ⟨bp, i1, none⟩) rfl (.int .i64 ((d : Int) + 1)))
        by_cases hfull : d + 1 < n
        ·have hfi : (d : Int) + 1 < (n : Int) := by omega
         obtain ⟨n1, n2, n3⟩ := hbk.out.next hp.out.1 HD.out hp.out.2 hfull
         have N := hI (And.intro n1 (And.intro n2 n3)); clear n1 n2 n3
         have hJ9 := hI (HU.out.hst _ _ _ _ HJ'.out (hK9.out.mono (fun b hb => by subst hb; exact ⟨by omega, G5.out.1⟩) : Keep (fun b => B ≤ b ∧ ¬ T' b) W4 _))
         have hW4 := lt_of_block G2.out
         gi_wp2
         go_roundw
         case rel =>
          exact ⟨q.set i1 (d + 1), T', y, ⟨N.out.1, N.out.2.1⟩, HYL, by rw [N.out.2.2]; exact hJ9, S1, (hK9.out.block _ hW4 (by omega)).trans G2.out, G5, G3.out.keep hK9.out (fun hn0 ad had h => by have := (G4.out hn0 ad had).2; omega), G4⟩
         case measure =>
          rw [HDEC.out, decP_eq S1.out N.out.1, N.out.2.2]
          have := digN_lt k p hp.out.1 hp.out.2
          omega
        ·have hfi : ¬ (d : Int) + 1 < (n : Int) := by omega
         have hbs := hI (hbk.out.step hp.out.1 HD.out (by omega))
         have s2 := heap_setCell_same (o := i1) (u := .int .i64 ((0 : Nat) : Int)) S1.out
         rw [plC_set _ i1 0 (by rw [List.length_set]; exact hql), List.set_set] at s2
         have S2 := hI s2; clear s2
         gi_wp2
         go_roundw
         case rel =>
          exact ⟨(i1 : Int) - 1, i1, q.set i1 0, rfl, rfl, by omega, hbs, S2, hK9.out.setCell (p := ⟨bp, i1, none⟩) rfl _⟩
         case measure => simp [intOf]
     ·have HX := hI hx; clear hx
      gi_wp2
      refine bodyPost_ret (results_none rfl _ _ _) rfl ⟨⟨_, rfl⟩, .inr HX.out⟩
 ·have hk1 : ¬ (0 : Int) < (k : Int) := by omega
  gi_wp2
  clear hk1
  refine ⟨trivial, ?_⟩
  refine (callsIn_wide.2 (values_c A n c W)).mono ?_
  rintro e w1 ⟨rfl, rfl⟩
  gi_wp2
  refine ⟨trivial, ?_⟩
  refine (callsIn_wide.2 (HSO.out W (Below.refl _ _))).mono ?_
  rintro e w2 ⟨A2, c2, rfl, hl2, hb2, hf2⟩
  have hB2 : Below W.heap.size W w2 := ((Below.refl W.heap.size W).alloc rr _).trans (hb2.mono (by simp))
  have e1 := (hB2.cell (p := ⟨bn, 0, none⟩) (lt_of_block (HU.out.hrd _ _ _ H0.out).2.1)).trans e1
  have hB2s := hB2.size
  have hbn2 : bn < w2.heap.size := Nat.lt_of_lt_of_le hbn hB2s
  have HL2 := hI hl2
  have HF2 := hI (show ∀ ad, A2 = some ad → W.heap.size ≤ ad.block from fun ad had => by have := hf2 ad had; simp at this; omega)
  have HJ2 := hI (HU.out.hst _ _ _ _ H0.out (show Keep (fun b => B ≤ b ∧ ¬ T0 b) W w2 from keep_of_below hB2))
  clear hl2 hb2 hf2 hB2 e2
  gi_wp2
  rw [← plC_zero k hk]
  obtain ⟨bp, hbp⟩ : ∃ bp, bp = w2.heap.size := ⟨_, rfl⟩
  have hA2 : 0 < n → ∀ ad, A2 = some ad → ¬ T0 ad.block ∧ ad.block < bp := fun hn0 ad had => by
   obtain ⟨b, off, hb, hlt, _⟩ := HL2.out.2.2.2.2 hn0
   have h1 := HF2.out ad had
   rw [had] at hb; injection hb with hb; subst hb
   simp only at h1 hlt ⊢
   exact ⟨fun h => by have := hT0 _ h; omega, by omega⟩
  have HA2 := hI hA2; clear hA2
  have x1 : ((w2.alloc (.cells (plC (List.replicate k 0)) 226)).alloc (.cells (wcells (List.replicate k (0, 0))).toArray 24)).heap[w2.heap.size]? = some (.cells (plC (List.replicate k 0)) 226 (0, 0)) := hpt
  have x2 : ((w2.alloc (.cells (plC (List.replicate k 0)) 226)).alloc (.cells (wcells (List.replicate k (0, 0))).toArray 24)).heap[w2.heap.size + 1]? = some (.cells (wcells (List.replicate k (0, 0))).toArray 24 (0, 0)) := hpt
  have x3 : Below w2.heap.size w2 ((w2.alloc (.cells (plC (List.replicate k 0)) 226)).alloc (.cells (wcells (List.replicate k (0, 0))).toArray 24)) := bel
  rw [← hbp] at x1 x2 ⊢
  generalize (w2.alloc (.cells (plC (List.replicate k 0)) 226)).alloc (.cells (wcells (List.replicate k (0, 0))).toArray 24) = V at *
  have hJ3 := HU.out.hst _ _ _ _ HJ2.out (show Keep (fun b => B ≤ b ∧ ¬ T0 b) w2 V from keep_of_below x3)
  have HJ3 := hI hJ3
  have HL3 := hI (HL2.out.below x3 rr)
  have X1 := hI x1
  have X2 := hI x2
  have hbB : B ≤ bp ∧ W.heap.size ≤ bp := by omega
  have HBP := hI hbp
  clear hbp x1 x2 x3 hJ3 HJ2 HL2 e1 hmk hbn2 hB2s
  gi_loopw [7] (fun _ wr => ∃ (p : List Nat) (T : Nat → Prop) (x : List Snd), Hid (p.length = k ∧ ∀ d ∈ p, d < n) ∧ Hid (x.length = k) ∧ Hid (J (digN n p) T wr) ∧ Hid (wr.heap[bp]? = some (.cells (plC p) 226 (0, 0))) ∧
    Hid (wr.heap[bp + 1]? = some (.cells (wcells x).toArray 24 (0, 0))) ∧ Hid (¬ T bp ∧ ¬ T (bp + 1)) ∧ Hid (IsWord wr A2 n c2 (alphaM ss)) ∧ Hid (0 < n → ∀ ad, A2 = some ad → ¬ T ad.block ∧ ad.block < bp))
   (fun _ wr => n ^ k - digN n (decP wr bp k))
  case atStart =>
   refine ⟨List.replicate k 0, T0, List.replicate k (0, 0), ⟨by simp, fun d hd => ?_⟩, (by simp : (List.replicate k ((0, 0) : Snd)).length = k), ?_, X1, X2, ⟨fun h => by have := hT0 _ h; omega, fun h => by have := hT0 _ h; omega⟩, HL3, HA2⟩
   ·have h1 := List.eq_of_mem_replicate hd
    have h2 : 0 < k := by rcases Nat.eq_zero_or_pos k with h | h; · subst h; simp at hd
                          ·exact h
    have := HZ.out; omega
   ·rw [digN_zero]; exact HJ3
  case round =>
   clear X1 X2 HL3 HA2 HJ3
   obtain ⟨p, T, x, hp, hx, HJ, hh1, hh2, hT, hl, hA⟩ := hrel
   obtain ⟨q1, q2, q3⟩ := HU.out.hrd _ _ _ HJ.out
   have e1r := cell_of_one q2
   have Q2 := hI q2
   clear q1 q2 q3
   gi_wp2
   obtain ⟨wo, rfl⟩ : ∃ wo : World, wo = wr := ⟨_, rfl⟩
   clear e1r
   gi_loopw [7, 22] (fun _ i wr => ∃ (j : Nat) (y : List Snd), i = .int .i64 j ∧ j ≤ k ∧ Hid (y.length = k ∧ y.take j = (digW (alphaM ss) p).take j) ∧ Hid (wr.heap[bp + 1]? = some (.cells (wcells y).toArray 24 (0, 0))) ∧ Hid (Keep (fun b => b = bp + 1) wo wr))
    (fun _ i _ => k - (intOf i).toNat)
   case atStart => exact ⟨0, x, rfl, Nat.zero_le _, ⟨hx.out, by simp⟩, hh2, Keep.refl _ _⟩
   case round =>
    obtain ⟨j, y, rfl, hj, hy, hby, hkp⟩ := hrel
    by_cases hjk : j < k
    ·exfalso
     omega
    ·obtain rfl : k = j := by omega
     have hyw : y = digW (alphaM ss) p := by
      have h1 := hy.out.2
      rw [List.take_of_length_le (by rw [hy.out.1]; exact rr), List.take_of_length_le (by simp [digW, hp.out.1])] at h1
      exact h1
     have hwx : (wordsM (alphaM ss) k)[digN n p]? = some y := by
      have h := words_at (alphaM ss) k p hp.out.1 (by rw [HAL.out]; exact hp.out.2)
      rw [HAL.out] at h
      rw [hyw]; exact h
     have hJw : J (digN n p) T wr := HU.out.hst _ _ _ _ HJ.out (hkp.out.mono (fun b hb => by subst hb; exact ⟨by omega, hT.out.2⟩))
     have hiw : IsWord wr (some ⟨bp + 1, 0, none⟩) k k y := word_row hby.out hy.out.1 (by unfold maxLen; omega)
     obtain ⟨fn, tmps, assign, body, hyr, hR⟩ := yield_any (m' := m - 1) (HU.out.hy _ T _ _ _ y hwx hiw (fun ad had => by cases had; exact ⟨by simp only; omega, hT.out.2⟩) hJw)
     have HR := hI hR
     have hlk := hI (hl.out.keep hkp.out (fun hn0 ad had h => by have := (hA.out hn0 ad had).2; omega))
     have hbpn := hI ((hkp.out.block _ (lt_of_block hh1.out) (by omega)).trans hh1.out)
     have HDEC := hI (decP_eq hh1.out hp.out.1)
     clear hR hyw hwx hJw hiw hh1 hh2 hl
     gi_wp2
     refine HR.out.mono ?_
     rintro e W4 (⟨rfl, T', hJ', hKp, hT'⟩ | ⟨rfl, hx⟩)
     ·have g1 := (hKp.block _ (lt_of_block hbpn.out) hT.out.1).trans hbpn.out
      have g2 := (hKp.block _ (lt_of_block hby.out) hT.out.2).trans hby.out
      have g3 := hlk.out.keep hKp (fun hn0 ad had => (hA.out hn0 ad had).1)
      have g4 : 0 < n → ∀ ad, A2 = some ad → ¬ T' ad.block ∧ ad.block < bp := fun hn0 ad had => ⟨fun h => (hT' _ h).elim (hA.out hn0 ad had).1 (fun h2 => by have := (hA.out hn0 ad had).2; have := lt_of_block hbpn.out; omega), (hA.out hn0 ad had).2⟩
      have g5 : ¬ T' bp ∧ ¬ T' (bp + 1) := ⟨fun h => (hT' _ h).elim hT.out.1 (fun h2 => by have := lt_of_block hbpn.out; omega), fun h => (hT' _ h).elim hT.out.2 (fun h2 => by have := lt_of_block hby.out; omega)⟩
      obtain ⟨q1, q2, q3⟩ := HU.out.hrd _ _ _ hJ'
      have e1r := cell_of_one q2
      have G1 := hI g1; have G2 := hI g2; have G3 := hI g3; have G4 := hI g4; have G5 := hI g5
      have HJ' := hI hJ'
      have HYL := hI hy.out.1
      clear q1 q2 q3 g1 g2 g3 g4 g5 hJ' hKp hT' hyr hlk hbpn hby hkp hy HR hA hT
      gi_wp2
      clear e1r
      gi_loopw [8] (fun i wr => ∃ (z : Int) (i0 : Nat) (q : List Nat), i = .int .i64 z ∧ z = (i0 : Int) - 1 ∧ i0 ≤ k ∧ Hid (Back n k p i0 q) ∧ Hid (wr.heap[bp]? = some (.cells (plC q) 226 (0, 0))) ∧ Hid (Keep (fun b => b = bp) W4 wr))
       (fun i _ => (intOf i + 1).toNat)
      case atStart => exact ⟨(k : Int) - 1, k, p, rfl, rfl, rr, Back.start hp.out.1, G1, Keep.refl _ _⟩
      case round =>
       obtain ⟨z, i0, q, rfl, hz, hi0, hbk, hbp', hkp'⟩ := hrel
       have hJn := hI (HU.out.hst _ _ _ _ HJ'.out (hkp'.out.mono (fun b hb => by subst hb; exact ⟨by omega, G5.out.1⟩) : Keep (fun b => B ≤ b ∧ ¬ T' b) W4 wr))
       rcases Nat.eq_zero_or_pos i0 with hi1 | hi1
       ·have hz1 : z = -1 := by omega
        subst hz1
        subst hi1
        have hlast := hbk.out.last
        have HLA := hI hlast; clear hlast hz
        gi_wp2
        refine bodyPost_ret (results_none rfl _ _ _) rfl ⟨⟨_, rfl⟩, .inl ⟨T', ?_⟩⟩
        rw [words_len, HAL.out, ← HLA.out]; exact hJn.out
       ·exfalso
        omega
     ·have HX := hI hx; clear hx
      gi_wp2
      refine bodyPost_ret (results_none rfl _ _ _) rfl ⟨⟨_, rfl⟩, .inr HX.out⟩
theorem words_c (A : Option Addr) (n c : Nat) (k : Int) (w : World) : Calls Tryz.prog 161 #[.slice A n c, .int .i64 k] w fun e w' =>
  e = .returned (.func (.func 189) #[] #[.pointer (some ⟨w.heap.size + 1, 0, none⟩), .pointer (some ⟨w.heap.size, 0, none⟩)]) ∧ w'.heap[w.heap.size + 1]? = some (.cells #[.int .i64 k] 3 (0, 0)) ∧
   w'.heap[w.heap.size]? = some (.cells #[.slice A n c] 32 (0, 0)) ∧ Below w.heap.size w w' ∧ w'.heap.size = w.heap.size + 2 := by
 go_enter Tryz.func161, Tryz.ntmps161
 go_wp2
 go_ret
 exact ⟨rfl, hpt, hpt, bel, by simp⟩
end Go.Proofs.YtlgliddhideflaaGreatDoor
namespace Go.Proofs.YtlgliddhideflaaGreatDoor
open Go.RowKit Go.Shelf
attribute [local go_sem] Oper.semAt_some
structure SrcUse (lr bs bl bw : Nat) (A : Option Addr) (n c : Nat) (xs : List LawR) (Aw : Option Addr) (nw cw : Nat) (ws : List Snd) (As : Option Addr) (ns cs : Nat) (ss : List Snd) (B : Nat) (J : Nat → (Nat → Prop) → World → Prop) (Jx : (Nat → Prop) → World → Prop) : Prop where
 hB : ∀ i T W, J i T W → B ≤ W.heap.size
 hlt : ∀ i T W, J i T W → ∀ b, T b → b < W.heap.size
 hst : ∀ i T W W', J i T W → Keep (fun b => B ≤ b ∧ ¬ T b) W W' → J i T W'
 hsx : ∀ T W W', Jx T W → Keep (fun b => B ≤ b ∧ ¬ T b) W W' → Jx T W'
 hrd : ∀ i T W, J i T W → W.heap[bs]? = some (.cells #[.slice As ns cs] 32 (0, 0)) ∧ W.heap[bl]? = some (.cells #[.slice A n c] 35 (0, 0)) ∧ W.heap[bw]? = some (.cells #[.slice Aw nw cw] 32 (0, 0)) ∧
  IsLaws W A n c xs ∧ IsWord W Aw nw cw ws ∧ IsWord W As ns cs ss ∧ TabOK W
 hnd : ∀ i T W, J i T W → ∀ b, T b → ∀ x, W.heap[b]? ≠ some (.deferred x)
 hnx : ∀ T W, Jx T W → ∀ b, T b → ∀ x, W.heap[b]? ≠ some (.deferred x)
 hy : ∀ i T W A' k c' x, (beforeM (lawsD xs) ws ss)[i]? = some x → IsWord W A' k c' x → (∀ ad, A' = some ad → B ≤ ad.block ∧ ¬ T ad.block) → J i T W → YieldAt Fence.wide 0 Tryz.prog lr #[.slice A' k c'] W (fun e W'' =>
  Keep T W W'' ∧ ((e = .returned (.bool true) ∧ ∃ T', J (i + 1) T' W'' ∧ ∀ b, T' b → T b ∨ W.heap.size ≤ b) ∨ (e = .returned (.bool false) ∧ ∃ T', Jx T' W'' ∧ ∀ b, T' b → T b ∨ W.heap.size ≤ b)))
def RetSrc (w : World) (A : Option Addr) (n c : Nat) (Aw : Option Addr) (nw cw : Nat) (As : Option Addr) (ns cs : Nat) (e : Ending) (w' : World) : Prop :=
 ∃ bs bl bw : Nat, e = .returned (.func (.func 180) #[] #[.pointer (some ⟨bs, 0, none⟩), .pointer (some ⟨bl, 0, none⟩), .pointer (some ⟨bw, 0, none⟩)]) ∧
  w'.heap[bs]? = some (.cells #[.slice As ns cs] 32 (0, 0)) ∧ w'.heap[bl]? = some (.cells #[.slice A n c] 35 (0, 0)) ∧ w'.heap[bw]? = some (.cells #[.slice Aw nw cw] 32 (0, 0)) ∧
  w.heap.size ≤ bs ∧ w.heap.size ≤ bl ∧ w.heap.size ≤ bw ∧ Below w.heap.size w w'
theorem sources_c (A : Option Addr) (n c : Nat) (Aw : Option Addr) (nw cw : Nat) (As : Option Addr) (ns cs : Nat) (w : World) : Calls Tryz.prog 141 #[.slice A n c, .slice Aw nw cw, .slice As ns cs] w (RetSrc w A n c Aw nw cw As ns cs) := by
 go_enter Tryz.func141, Tryz.ntmps141
 go_wp2
 go_ret
 exact ⟨w.heap.size + 1 + 1, w.heap.size, w.heap.size + 1, rfl, hpt, hpt, hpt, by omega, rr, by omega, bel⟩
end Go.Proofs.YtlgliddhideflaaGreatDoor
namespace Go.Proofs.YtlgliddhideflaaGreatDoor
open Go.RowKit Go.Shelf
attribute [local go_sem] Oper.semAt_some
theorem sources1_iter (m lr bs bl bw : Nat) (hm : 3 ≤ m) (A : Option Addr) (n c : Nat) (xs : List LawR) (Aw : Option Addr) (nw cw : Nat) (ws : List Snd) (As : Option Addr) (ns cs : Nat) (ss : List Snd) (W : World) (J : Nat → (Nat → Prop) → World → Prop) (Jx : (Nat → Prop) → World → Prop) (T0 : Nat → Prop) (B : Nat)
  (H : SrcUse lr bs bl bw A n c xs Aw nw cw ws As ns cs ss B J Jx) (h0 : J 0 T0 W) (hr : refusedM ss = 0) (hnw : nw ≤ 4096) :
  CallsIn Fence.wide m Tryz.prog 180 #[.func (.yield lr) #[] #[], .pointer (some ⟨bs, 0, none⟩), .pointer (some ⟨bl, 0, none⟩), .pointer (some ⟨bw, 0, none⟩)] W fun e W' =>
   (∃ v, e = .returned v) ∧ ((∃ T, J (beforeM (lawsD xs) ws ss).length T W') ∨ ∃ T, Jx T W') := by
 have hT0 := H.hlt _ _ _ h0
 have hB0 := H.hB _ _ _ h0
 obtain ⟨r1, r2, r3, r4, r5, r6, r7⟩ := H.hrd _ _ _ h0
 have hbs := lt_of_block r1
 have hbl := lt_of_block r2
 have hbw := lt_of_block r3
 obtain ⟨hs5, hsv, hsd⟩ := refused_none hr
 have hns : ns ≤ 5 := by rw [← r6.len]; exact hs5
 have HSV := hI hsv; clear hsv
 have HSD := hI hsd; clear hsd
 have HU := hI H; clear H
 have H0 := hI h0; clear h0
 clear r1 r2 r3 r4 r5 r6 r7 hr hs5
 refine callsIn_of_wp_marks Tryz.func180 rfl trivial ?_ rfl
 simp only [Tryz.ntmps180, List.size_toArray, List.length_cons, List.length_nil, Nat.reduceAdd, Nat.reduceSub, Array.replicate_succ, Array.replicate_zero, List.push_toArray, List.append_toArray, List.nil_append, List.cons_append]
 gi_wp2
 have g5 : (W.alloc (.cells #[.func (.yield lr) #[] #[]] 90)).heap[W.heap.size]? = some (.cells #[.func (.yield lr) #[] #[]] 90 (0, 0)) := hpt
 have g7 : Below W.heap.size W (W.alloc (.cells #[.func (.yield lr) #[] #[]] 90)) := bel
 generalize (W.alloc (.cells #[.func (.yield lr) #[] #[]] 90)) = W0 at *
 have J0 := hI (HU.out.hst _ T0 W W0 H0.out (keep_of_below g7))
 have hW0 := lt_of_block g5
 have G5 := hI g5; clear g5
 clear g7
 refine wpIn_loop (fun a' wr => ∃ (k : Nat) (T : Nat → Prop) (ds : List Deferred) (u5 u6 u7 u8 u10 u11 u12 u13 u14 u15 u16 u17 u18 u19 u20 u21 u22 u23 u24 u25 u26 u27 u28 u29 u30 u31 u32 u33 u34 u35 : Value),
   a' = { tmps := #[.func (.yield lr) #[] #[], .pointer (some ⟨bs, 0, none⟩), .pointer (some ⟨bl, 0, none⟩), .pointer (some ⟨bw, 0, none⟩), .pointer (some ⟨W.heap.size, 0, none⟩), u5, u6, u7, u8, .int .i64 k, u10, u11, u12, u13, u14, u15, u16, u17, u18, u19, u20, u21, u22, u23, u24, u25, u26, u27, u28, u29, u30, u31, u32, u33, u34, u35], defers := ds } ∧
   k ≤ 7 ∧ Hid (J (preM (lawsD xs) ws ss k 0).length T wr) ∧ Hid (Marks W.heap.size wr ds) ∧ Hid (∀ D, mark D ∈ ds → ¬ T D) ∧ Hid (¬ T W.heap.size) ∧ Hid (wr.heap[W.heap.size]? = some (.cells #[.func (.yield lr) #[] #[]] 90 (0, 0))))
  (fun a' _ => 7 - (intOf (a'.tmps.getD 9 undef)).toNat) ?start ?round
 case start =>
  exact ⟨0, T0, [], _, _, _, _, _, _, _, _, _, _, _, _, _, _, _, _, _, _, _, _, _, _, _, _, _, _, _, _, _, _, rfl, by omega, by rw [pre_zero]; exact J0, trivial, fun D h => by simp at h, fun h => by have := hT0 _ h; omega, G5⟩
 case round =>
  rintro _ wr ⟨k, T, ds, u5, u6, u7, u8, u10, u11, u12, u13, u14, u15, u16, u17, u18, u19, u20, u21, u22, u23, u24, u25, u26, u27, u28, u29, u30, u31, u32, u33, u34, u35, rfl, hk, HJ, HM, HMT, HTB, HG⟩
  have hwr := lt_of_block HG.out
  by_cases hlt : k < 7
  ·obtain ⟨r1, r2, r3, r4, r5, r6, r7⟩ := HU.out.hrd _ _ _ HJ.out
   have c1 := cell_of_one r1
   have hbsr := lt_of_block r1
   clear r1 r2 r3 r4 r5 r7
   have R6 := hI r6; clear r6
   gi_wp2
   refine ⟨trivial, fun _ => by omega, ?_⟩
   refine (callsIn_wide.2 (words_c As ns cs k wr)).mono ?_
   rintro e w1 ⟨rfl, k2, k1, hb1, hz1⟩
   have HTL := hI (HU.out.hlt _ _ _ HJ.out)
   have K1 := hI k1; have K2 := hI k2
   clear k1 k2 c1
   gi_wp2
   refine wide_range (gf := 189) (lb := #[.pointer (some ⟨wr.heap.size + 1, 0, none⟩), .pointer (some ⟨wr.heap.size, 0, none⟩)]) rfl (enters_of Tryz.func189 (by kernel_rfl) rfl) fun fn D l rc W1 hrc hD hl hK2 hD1 hl1 hs2 => ?_
   have HRC := hI hrc; clear hrc
   have hDl : D < l := by omega
   have hlW : l < W1.heap.size := by omega
   have hwD : wr.heap.size + 1 < D := by omega
   clear hs2 hD hl hz1
   have hK1 : Keep (fun _ => False) wr W1 := (keep_of_below hb1).trans hK2
   have hwW := hK1.size
   have HKW := hI hK1
   have k11 := (hK2.block _ (lt_of_block K1.out) (by simp)).trans K1.out
   have k21 := (hK2.block _ (lt_of_block K2.out) (by simp)).trans K2.out
   have hg1 := (hK1.block _ hwr (by simp)).trans HG.out
   have HJ1 := hI (HU.out.hst _ _ _ _ HJ.out (hK1.mono fun _ h => h.elim))
   clear hb1 hK1 hK2
   obtain ⟨Mine, hMine⟩ : ∃ Mine : Nat → Prop, Mine = fun b => W.heap.size ≤ b ∧ b < W1.heap.size ∧ ¬ T b := ⟨_, rfl⟩
   have hMl : Mine l := by rw [hMine]; exact ⟨by omega, hlW, fun h => by have := HTL.out _ h; omega⟩
   have hMD : Mine D := by rw [hMine]; exact ⟨by omega, by omega, fun h => by have := HTL.out _ h; omega⟩
   have hM1 : Mine wr.heap.size := by rw [hMine]; exact ⟨by omega, by omega, fun h => by have := HTL.out _ h; omega⟩
   have hM2 : Mine (wr.heap.size + 1) := by rw [hMine]; exact ⟨by omega, by omega, fun h => by have := HTL.out _ h; omega⟩
   have hMW : Mine W.heap.size := by rw [hMine]; exact ⟨rr, by omega, HTB.out⟩
   have hMd : ∀ D', mark D' ∈ ds → Mine D' ∧ D' < D ∧ W1.heap[D']? = some (.deferred (some [])) := fun D' h => by
    obtain ⟨h1, h2⟩ := HM.out.at_ D' h
    have h3 := (Array.getElem?_eq_some_iff.1 h1).1
    rw [hMine]
    exact ⟨⟨h2, by omega, HMT.out D' h⟩, by omega, (HKW.out.block _ h3 (by simp)).trans h1⟩
   have hMlt : ∀ b, Mine b → W.heap.size ≤ b ∧ b < W1.heap.size ∧ ¬ T b := fun b h => by rw [hMine] at h; exact h
   clear hMine
   have HML := hI hMl; have HMD := hI hMD; have HM1 := hI hM1; have HM2 := hI hM2; have HMW := hI hMW; have HMd := hI hMd; have HMlt := hI hMlt
   clear hMl hMD hM1 hM2 hMW hMd hMlt
   obtain ⟨JJ, hJJ⟩ : ∃ JJ : Nat → (Nat → Prop) → World → Prop, JJ = fun i T' X => ∃ T1 : Nat → Prop, T' = (fun b => T1 b ∨ b = l) ∧ J (preM (lawsD xs) ws ss k i).length T1 X ∧ (∀ b, Mine b → ¬ T1 b) ∧ (∀ b, Mine b → b ≠ l → X.heap[b]? = W1.heap[b]?) ∧
     X.heap[l]? = some (.loop (rc .ready none)) ∧ W1.heap.size ≤ X.heap.size := ⟨_, rfl⟩
   have HJJ := hI hJJ; clear hJJ
   obtain ⟨JX, hJX⟩ : ∃ JX : World → Prop, JX = fun X => ∃ T1 : Nat → Prop, Jx T1 X ∧ (∀ b, Mine b → ¬ T1 b) ∧ (∀ b, Mine b → b ≠ l → X.heap[b]? = W1.heap[b]?) ∧ X.heap[l]? = some (.loop (rc .done (some .ret))) := ⟨_, rfl⟩
   have HJX := hI hJX; clear hJX
   have K11 := hI k11; have K21 := hI k21; have HG1 := hI hg1; have HD1 := hI hD1; have HL1 := hI hl1
   clear k11 k21 hg1 hD1 hl1
   refine (words1_iter (m - 1) l (wr.heap.size + 1) wr.heap.size (by omega) As ns cs ss k W1.heap.size W1 JJ JX (fun b => T b ∨ b = l) ?hu ?h0 hns (by omega) HSD.out).mono ?_
   case h0 =>
    rw [HJJ.out]
    exact ⟨T, rfl, HJ1.out, fun b hb => (HMlt.out b hb).2.2, fun b _ _ => rfl, HL1.out, rr⟩
   case hu =>
    refine ⟨?hB, ?hlt, ?hst, ?hrd, ?hy⟩
    case hB =>
     intro i T' X hx
     rw [HJJ.out] at hx
     obtain ⟨T1, rfl, h1, h2, h3, h4, h5⟩ := hx
     exact h5
    case hlt =>
     intro i T' X hx b hb
     rw [HJJ.out] at hx
     obtain ⟨T1, rfl, h1, h2, h3, h4, h5⟩ := hx
     rcases hb with hb | rfl
     ·exact HU.out.hlt _ _ _ h1 b hb
     ·exact lt_of_block h4
    case hst =>
     intro i T' X X' hx hKe
     rw [HJJ.out] at hx ⊢
     obtain ⟨T1, rfl, h1, h2, h3, h4, h5⟩ := hx
     have ho : ∀ b, b < W1.heap.size → X'.heap[b]? = X.heap[b]? := fun b hb => hKe.block b (by omega) (fun h => by have := h.1; omega)
     exact ⟨T1, rfl, HU.out.hst _ _ _ _ h1 (hKe.mono fun b hb => ⟨by have := hb.1; omega, fun h => hb.2 (.inl h)⟩), h2, fun b hb hne => (ho b (HMlt.out b hb).2.1).trans (h3 b hb hne), (ho l hlW).trans h4, Nat.le_trans h5 hKe.size⟩
    case hrd =>
     intro i T' X hx
     rw [HJJ.out] at hx
     obtain ⟨T1, rfl, h1, h2, h3, h4, h5⟩ := hx
     obtain ⟨q1, q2, q3, q4, q5, q6, q7⟩ := HU.out.hrd _ _ _ h1
     exact ⟨(h3 _ HM1.out (by omega)).trans K11.out, (h3 _ HM2.out (by omega)).trans K21.out, q6⟩
    case hy =>
     intro i T' X A' c' x hxi hwd hfr hx
     rw [HJJ.out] at hx
     obtain ⟨T1, rfl, h1, h2, h3, h4, h5⟩ := hx
     refine wide_round HRC.out h4 rfl ?_
     have HXI := hI hxi; clear hxi
     have HWD := hI hwd; clear hwd
     have HFR := hI hfr; clear hfr
     have HH1 := hI h1; have HH2 := hI h2; have HH3 := hI h3; have HH4 := hI h4
     clear h1 h2 h3 h4
     gi_wp2
     refine ⟨HH4.out, ?_⟩
     have p4 : (X.putObj l (.loop (rc .busy none))).heap[l]? = some (.loop (rc .busy none)) := World.putObj_heap_same (lt_of_block HH4.out)
     have pK : Keep (fun b => b = l) X (X.putObj l (.loop (rc .busy none))) := (Keep.refl (fun b => b = l) X).putObj rfl _
     have pJ : J (preM (lawsD xs) ws ss k i).length T1 (X.putObj l (.loop (rc .busy none))) := HU.out.hst _ _ _ _ HH1.out (pK.mono (fun b hb => by subst hb; exact ⟨by omega, HH2.out _ HML.out⟩))
     have p3 : ∀ b, Mine b → b ≠ l → (X.putObj l (.loop (rc .busy none))).heap[b]? = W1.heap[b]? := fun b hb hne => (World.putObj_heap_other hne).trans (HH3.out b hb hne)
     have pw : IsWord (X.putObj l (.loop (rc .busy none))) A' k c' x := HWD.out.keep pK fun _ ad had e => (HFR.out ad had).2 (.inr e)
     have ps : (X.putObj l (.loop (rc .busy none))).heap.size = X.heap.size := by simp
     generalize X.putObj l (.loop (rc .busy none)) = V at *
     have hVW : W1.heap.size ≤ V.heap.size := by omega
     obtain ⟨q1, q2, q3, q4, q5, q6, q7⟩ := HU.out.hrd _ _ _ pJ
     have e2 := cell_of_one q2
     have e3 := cell_of_one q3
     have hq2 := lt_of_block q2
     have hq3 := lt_of_block q3
     have P4 := hI p4; have PK := hI pK; have PJ := hI pJ; have P3 := hI p3; have PW := hI pw
     have Q2 := hI q2; have Q3 := hI q3; have Q4 := hI q4; have Q5 := hI q5; have Q7 := hI q7
     clear p4 pK pJ p3 pw q1 q2 q3 q4 q5 q6 q7
     gi_wp2
     refine ⟨trivial, rfl, (CallsIn.inRound l (callsIn_wide.2 (derive_c A n c xs A' k c' x V Q4.out PW.out Q7.out))).mono ?_⟩
     rintro e V2 ⟨A2, n2, c2, rfl, hw2, hb2, hf2⟩
     have HW2 := hI hw2; clear hw2
     have HB2 := hI hb2; clear hb2 hf2
     have e3b := HB2.out.cell (p := ⟨bw, 0, none⟩) hq3
     have g4 : V.heap[W.heap.size]? = some (.cells #[.func (.yield lr) #[] #[]] 90 (0, 0)) := (P3.out _ HMW.out (by omega)).trans HG1.out
     have hg4 := lt_of_block g4
     have e4 := cell_of_one g4
     have e4b := HB2.out.cell (p := ⟨W.heap.size, 0, none⟩) hg4
     clear g4
     have HGO : Hid (∀ (Y : World) (T2 : Nat → Prop), J (preM (lawsD xs) ws ss k (i + 1)).length T2 Y → Keep T1 V Y → (∀ b, T2 b → T1 b ∨ V.heap.size ≤ b) →
       ∃ T'', JJ (i + 1) T'' (Y.putObj l (.loop (rc .ready none))) ∧ Keep (fun b => T1 b ∨ b = l) X (Y.putObj l (.loop (rc .ready none))) ∧ ∀ b, T'' b → (fun b => T1 b ∨ b = l) b ∨ X.heap.size ≤ b) := by
      intro Y T2 y1 y2 y3
      have hYs := y2.size
      have hm2 : ∀ b, Mine b → ¬ T2 b := fun b hb h => by
       rcases y3 b h with h | h
       ·exact HH2.out b hb h
       ·have := (HMlt.out b hb).2.1; omega
      have hYl : l < Y.heap.size := by omega
      refine ⟨fun b => T2 b ∨ b = l, ?_, ?_, fun b h => ?_⟩
      ·rw [HJJ.out]
       refine ⟨T2, rfl, HU.out.hst _ _ _ _ y1 (((Keep.refl (fun b => b = l) Y).putObj rfl _).mono fun b hb => by subst hb; exact ⟨by omega, hm2 _ HML.out⟩), hm2, fun b hb hne => ?_, World.putObj_heap_same hYl, by simp; omega⟩
       have hbl := (HMlt.out b hb).2.1
       exact (World.putObj_heap_other hne).trans ((y2.block b (by omega) (HH2.out b hb)).trans (P3.out b hb hne))
      ·exact ((PK.out.mono fun _ h => .inr h).trans (y2.mono fun _ h => .inl h)).putObj (.inr rfl) _
      ·rcases h with h | h
       ·rcases y3 b h with h | h
        ·exact .inl (.inl h)
        ·exact .inr (by omega)
       ·exact .inl (.inr h)
     have JV2 := hI (HU.out.hst _ _ _ _ PJ.out (keep_of_below HB2.out))
     have PL2 := hI ((HB2.out.block l (lt_of_block P4.out)).trans P4.out)
     by_cases hd0 : (deriveM (lawsD xs) x).1 = 0
     ·gi_wp2
      refine ⟨trivial, rfl, (CallsIn.inRound l (callsIn_wide.2 (wEqual_c A2 Aw n2 nw c2 cw _ ws V2 HW2.out (Q5.out.below HB2.out rr)))).mono ?_⟩
      rintro e V3 ⟨rfl, hb3⟩
      have HB3 := hI (HB2.out.trans (hb3.mono HB2.out.size)); clear hb3
      have e4c := HB3.out.cell (p := ⟨W.heap.size, 0, none⟩) hg4
      have JV3 := hI (HU.out.hst _ _ _ _ PJ.out (keep_of_below HB3.out))
      have PL3 := hI ((HB3.out.block l (lt_of_block P4.out)).trans P4.out)
      by_cases hd1 : (deriveM (lawsD xs) x).2 = ws
      ·have HDV : Hid (deriveM (lawsD xs) x = (0, ws)) := by show _ = _; rw [Prod.ext_iff]; exact ⟨hd0, hd1⟩
       have HPY := hI (pre_yes HXI.out HDV.out)
       rw [decide_eq_true hd1]
       clear hd0 hd1
       obtain ⟨fn', tmps', assign', body', hyr, hR⟩ := yield_any (m' := 0) (HU.out.hy _ T1 V3 A' k c' x (pre_at (by omega) HXI.out HDV.out) (PW.out.below HB3.out rr) (fun ad had => ⟨by have := (HFR.out ad had).1; omega, fun h => (HFR.out ad had).2 (.inl h)⟩) JV3.out)
       have HR := hI hR; clear hR
       gi_wp2
       refine ⟨rfl, ?_⟩
       refine RoundIn.mono (F := Fence.wide.inRound l) (by exact HR.out) ?_
       have hs3 := HB3.out.size
       rintro e W6 ⟨hKp, ⟨rfl, T6, hJ6, hT6⟩ | ⟨rfl, T8, hx, hT8⟩⟩
       ·have hpl := (hKp.block l (lt_of_block PL3.out) (HH2.out _ HML.out)).trans PL3.out
        obtain ⟨T7, z1, z2, z3⟩ := HGO.out W6 T6 (by rw [HPY.out, List.length_append]; exact hJ6) (Keep.trans (keep_of_below HB3.out) hKp) (fun b h => (hT6 b h).imp id fun h => by omega)
        have Z1 := hI (And.intro hpl (And.intro z1 (And.intro z2 z3)))
        clear hKp hJ6 hT6 hpl z1 z2 z3 hyr
        gi_wp2
        exact ⟨Z1.out.1, .inl ⟨rfl, T7, Z1.out.2.1, Z1.out.2.2.1, Z1.out.2.2.2⟩⟩
       ·have hpl := (hKp.block l (lt_of_block PL3.out) (HH2.out _ HML.out)).trans PL3.out
        have hm8 : ∀ b, Mine b → ¬ T8 b := fun b hb h => (hT8 b h).elim (HH2.out b hb) fun h => by have := (HMlt.out b hb).2.1; omega
        have HP := hI hpl; have HX := hI hx; have HKP := hI hKp; have HM8 := hI hm8
        clear hKp hpl hx hyr hm8 hT8
        gi_wp2
        refine ⟨HP.out, .inr ⟨rfl, ?_⟩⟩
        rw [HJX.out]
        exact ⟨T8, HU.out.hsx _ _ _ HX.out (((Keep.refl (fun b => b = l) W6).putObj rfl _).mono fun b hb => by subst hb; exact ⟨by omega, HM8.out _ HML.out⟩), HM8.out, fun b hb hne => by
         have hbl := (HMlt.out b hb).2.1
         exact (World.putObj_heap_other hne).trans ((HKP.out.block b (by omega) (HH2.out b hb)).trans ((HB3.out.block b (by omega)).trans (P3.out b hb hne))), World.putObj_heap_same (lt_of_block HP.out)⟩
      ·have HDV : Hid (¬ deriveM (lawsD xs) x = (0, ws)) := by show ¬ _; rw [Prod.ext_iff]; exact fun h => hd1 h.2
       have HPN := hI (pre_no HXI.out HDV.out)
       rw [decide_eq_false hd1]
       clear hd0 hd1
       gi_wp2
       refine ⟨fun _ h => (by cases h), ?_⟩
       gi_wp2
       obtain ⟨T7, z1, z2, z3⟩ := HGO.out V3 T1 (by rw [HPN.out]; exact JV3.out) (keep_of_below HB3.out) (fun b h => .inl h)
       exact ⟨PL3.out, .inl ⟨rfl, T7, z1, z2, z3⟩⟩
     ·have hd0' : ((deriveM (lawsD xs) x).1 == 0) = false := by simpa using hd0
      have HDV : Hid (¬ deriveM (lawsD xs) x = (0, ws)) := by show ¬ _; rw [Prod.ext_iff]; exact fun h => hd0 h.1
      have HPN := hI (pre_no HXI.out HDV.out)
      clear hd0
      gi_wp2
      refine ⟨trivial, ?_⟩
      gi_wp2
      refine ⟨fun _ h => (by cases h), ?_⟩
      gi_wp2
      obtain ⟨T7, z1, z2, z3⟩ := HGO.out V2 T1 (by rw [HPN.out]; exact JV2.out) (keep_of_below HB2.out) (fun b h => .inl h)
      exact ⟨PL2.out, .inl ⟨rfl, T7, z1, z2, z3⟩⟩
   ·rintro e W2 ⟨⟨v, rfl⟩, ⟨T9, hj⟩ | hx⟩
    ·rw [HJJ.out] at hj
     obtain ⟨T1, rfl, h1, h2, h3, h4, h5⟩ := hj
     refine .inl ⟨h4, ?_⟩
     rw [pre_next] at h1
     have xJ : J (preM (lawsD xs) ws ss (k + 1) 0).length T1 (W2.putObj l (.loop (rc .exhausted none))) := HU.out.hst _ _ _ _ h1 (((Keep.refl (fun b => b = l) W2).putObj rfl _).mono fun b hb => by subst hb; exact ⟨by omega, h2 _ HML.out⟩)
     have x3 : ∀ b, Mine b → b ≠ l → (W2.putObj l (.loop (rc .exhausted none))).heap[b]? = W1.heap[b]? := fun b hb hne => (World.putObj_heap_other hne).trans (h3 b hb hne)
     generalize W2.putObj l (.loop (rc .exhausted none)) = X at *
     have XM : Hid (Marks W.heap.size X (mark D :: ds)) := ⟨D, rfl, by omega, (x3 D HMD.out (by omega)).trans HD1.out, fun D' hm => (HMd.out D' hm).2.1, HM.out.mono fun D' hm _ => (x3 D' (HMd.out D' hm).1 (by have := (HMd.out D' hm).2.1; omega)).trans (HMd.out D' hm).2.2⟩
     have XT : Hid (∀ D', mark D' ∈ mark D :: ds → ¬ T1 D') := fun D' hm => by
      rcases List.mem_cons.1 hm with e | e
      ·have he : D' = D := by simpa [mark] using e
       subst he; exact h2 _ HMD.out
      ·exact h2 _ (HMd.out D' e).1
     have XW := hI (h2 _ HMW.out)
     have XG := hI ((x3 _ HMW.out (by omega)).trans HG1.out)
     have XJ := hI xJ
     clear xJ x3 h1 h2 h3 h4 h5
     gi_wp2
     exact ⟨⟨k + 1, T1, mark D :: ds, ⟨by omega, rfl⟩, by omega, XJ.out, XM.out, XT.out, XW.out⟩, by simp [intOf]; omega⟩
    ·rw [HJX.out] at hx
     obtain ⟨T1, h1, h2, h3, h4⟩ := hx
     refine .inr ⟨.ret, h4, ?_⟩
     have xJ : Jx T1 (W2.putObj l (.loop (rc .exhausted (some .ret)))) := HU.out.hsx _ _ _ h1 (((Keep.refl (fun b => b = l) W2).putObj rfl _).mono fun b hb => by subst hb; exact ⟨by omega, h2 _ HML.out⟩)
     have x3 : ∀ b, Mine b → b ≠ l → (W2.putObj l (.loop (rc .exhausted (some .ret)))).heap[b]? = W1.heap[b]? := fun b hb hne => (World.putObj_heap_other hne).trans (h3 b hb hne)
     generalize W2.putObj l (.loop (rc .exhausted (some .ret))) = X at *
     have XM : Hid (Marks W.heap.size X (mark D :: ds)) := ⟨D, rfl, by omega, (x3 D HMD.out (by omega)).trans HD1.out, fun D' hm => (HMd.out D' hm).2.1, HM.out.mono fun D' hm _ => (x3 D' (HMd.out D' hm).1 (by have := (HMd.out D' hm).2.1; omega)).trans (HMd.out D' hm).2.2⟩
     have XJ := hI xJ
     clear xJ x3 h1 h2 h3 h4
     gi_wp2
     exact post_ret (B := W.heap.size) XM.out fun w' hw' => ⟨_, results_none rfl _ _ _, ⟨_, rfl⟩, .inr ⟨T1, HU.out.hsx _ _ _ XJ.out ((keep_of_shut hw' (HU.out.hnx _ _ XJ.out)).mono fun b hb => ⟨by have := hb.1; omega, hb.2⟩)⟩⟩
  ·obtain rfl : k = 7 := by omega
   gi_wp2
   exact post_end (B := W.heap.size) HM.out fun w' hw' => ⟨_, results_none rfl _ _ _, ⟨_, rfl⟩, .inl ⟨T, by have h := HU.out.hst _ _ _ _ HJ.out ((keep_of_shut hw' (HU.out.hnd _ _ _ HJ.out)).mono fun b hb => ⟨by have := hb.1; omega, hb.2⟩); rwa [pre_last] at h⟩⟩
end Go.Proofs.YtlgliddhideflaaGreatDoor
namespace Go.Proofs.YtlgliddhideflaaGreatDoor
open Go.RowKit Go.Shelf
attribute [local go_sem] Oper.semAt_some
theorem back_bad {ls : List LawD} {w ss : List Snd} {most : Int} (h : wrongM ls w ss ≠ 0) : backM ls w ss most = (wrongM ls w ss, []) := by unfold backM; rw [if_pos h]
theorem back_range {ls : List LawD} {w ss : List Snd} {most : Int} (h : wrongM ls w ss = 0) (hm : most < 0) : backM ls w ss most = (3, []) := by unfold backM; rw [if_neg (by simpa using h), if_pos hm]
theorem back_ok {ls : List LawD} {w ss : List Snd} {most : Int} (h : wrongM ls w ss = 0) (hm : ¬ most < 0) : backM ls w ss most = (0, (beforeM ls w ss).take most.toNat) := by unfold backM; rw [if_neg (by simpa using h), if_neg hm]
theorem backAll_c (A : Option Addr) (n c : Nat) (xs : List LawR) (Aw : Option Addr) (nw cw : Nat) (ws : List Snd) (As : Option Addr) (ns cs : Nat) (ss : List Snd) (most : Int) (w : World) (hx : IsLaws w A n c xs) (hw : IsWord w Aw nw cw ws) (hs : IsWord w As ns cs ss) (hT : TabOK w) (hnw : nw ≤ 4096) :
  Calls Tryz.prog 62 #[.slice A n c, .slice Aw nw cw, .slice As ns cs, .int .i64 most] w (RetWsE w (backM (lawsD xs) ws ss most)) := by
 have HX := hI hx; have HW := hI hw; have HS := hI hs; have HT := hI hT
 clear hx hw hs hT
 refine (callsIn_wide (n := 9)).1 (callsIn_of_wp_marks Tryz.func62 rfl trivial ?_ rfl)
 simp only [Tryz.ntmps62, List.size_toArray, List.length_cons, List.length_nil, Nat.reduceAdd, Nat.reduceSub, Array.replicate_succ, Array.replicate_zero, List.push_toArray, List.append_toArray, List.nil_append, List.cons_append]
 gi_wp2
 have k5 : (w.alloc (.cells #[.int .i64 most] 3)).heap[w.heap.size]? = some (.cells #[.int .i64 most] 3 (0, 0)) := hpt
 have kB : Below w.heap.size w (w.alloc (.cells #[.int .i64 most] 3)) := bel
 generalize (w.alloc (.cells #[.int .i64 most] 3)) = V0 at *
 refine ⟨trivial, ?_⟩
 refine (callsIn_wide.2 (wrong_c A n c xs Aw nw cw ws As ns cs ss V0 (HX.out.below kB rr) (HW.out.below kB rr) (HS.out.below kB rr))).mono ?_
 rintro e w1 ⟨rfl, hb1⟩
 have K5 := hI ((hb1.block _ (lt_of_block k5)).trans k5)
 have HB1 := hI (kB.trans (hb1.mono kB.size))
 clear k5 kB hb1
 obtain ⟨b5, eb5⟩ : ∃ b5, b5 = w.heap.size := ⟨_, rfl⟩
 rw [← eb5] at K5 ⊢
 have l5 := lt_of_block K5.out
 have h5w : w.heap.size ≤ b5 := Nat.le_of_eq eb5.symm
 clear eb5
 obtain ⟨er, her⟩ : ∃ er, er = wrongM (lawsD xs) ws ss := ⟨_, rfl⟩
 rw [← her]
 have HER := hI her; clear her
 by_cases h0 : er = 0
 case neg =>
  have h1 : (er != 0) = true := by simpa using h0
  have HM : Hid (backM (lawsD xs) ws ss most = (er, [])) := by show backM _ _ _ _ = _; rw [back_bad (by rw [← HER.out]; exact h0), HER.out]
  clear h0
  gi_wp2
  exact post_tmp2 (B := w.heap.size) Tryz.results62 _ _ rfl rfl trivial fun w' hw' => ⟨none, 0, 0, by rw [HM.out]; rfl, by rw [HM.out]; exact IsWords.nil _, HB1.out.trans hw'.below⟩
 have h1 : (er != 0) = false := by simpa using h0
 have HW0 : Hid (wrongM (lawsD xs) ws ss = 0) := by show _ = _; rw [← HER.out]; exact h0
 clear h0
 have c5 := cell_of_one K5.out
 by_cases hm0 : most < 0
 ·have HM : Hid (backM (lawsD xs) ws ss most = (3, [])) := back_range HW0.out hm0
  gi_wp2
  exact post_tmp2 (B := w.heap.size) Tryz.results62 _ _ rfl rfl trivial fun w' hw' => ⟨none, 0, 0, by rw [HM.out]; rfl, by rw [HM.out]; exact IsWords.nil _, HB1.out.trans hw'.below⟩
 have HM : Hid (backM (lawsD xs) ws ss most = (0, (beforeM (lawsD xs) ws ss).take most.toNat)) := back_ok HW0.out hm0
 by_cases hm1 : most = 0
 ·subst hm1
  have HM0 : Hid (backM (lawsD xs) ws ss 0 = (0, [])) := by show _ = _; rw [HM.out]; rfl
  clear hm0
  gi_wp2
  exact post_tmp2 (B := w.heap.size) Tryz.results62 _ _ rfl rfl trivial fun w' hw' => ⟨none, 0, 0, by rw [HM0.out]; rfl, by rw [HM0.out]; exact IsWords.nil _, (HB1.out.alloc HB1.out.size _).trans hw'.below⟩
 have hm2 : (most == 0) = false := by simpa using hm1
 have hm3 : decide (most < 0) = false := by simpa using hm0
 gi_wp2
 refine ⟨trivial, ?_⟩
 have gA : (w1.alloc (.cells #[.slice none 0 0] 46)).heap[w1.heap.size]? = some (.cells #[.slice none 0 0] 46 (0, 0)) := hpt
 have g5 : (w1.alloc (.cells #[.slice none 0 0] 46)).heap[b5]? = some (.cells #[.int .i64 most] 3 (0, 0)) := (heap_old_at l5).trans K5.out
 have gB : Below w.heap.size w (w1.alloc (.cells #[.slice none 0 0] 46)) := HB1.out.alloc HB1.out.size _
 have hw1 := HB1.out.size
 generalize (w1.alloc (.cells #[.slice none 0 0] 46)) = WA at *
 have hbA := lt_of_block gA
 have GA := hI gA; have G5 := hI g5; have GB := hI gB
 clear gA g5 gB c5
 refine (callsIn_wide.2 (sources_c A n c Aw nw cw As ns cs WA)).mono ?_
 rintro e w2 ⟨bs, bl, bw, rfl, k1, k2, k3, hlb1, hlb2, hlb3, hb2⟩
 have K1 := hI k1; have K2 := hI k2; have K3 := hI k3; have HB2 := hI hb2
 clear k1 k2 k3 hb2
 gi_wp2
 refine wide_range (gf := 180) (lb := #[.pointer (some ⟨bs, 0, none⟩), .pointer (some ⟨bl, 0, none⟩), .pointer (some ⟨bw, 0, none⟩)]) rfl (enters_of Tryz.func180 (by kernel_rfl) rfl) fun fn D l rc W1 hrc hD hl hK2 hD1 hl1 hs2 => ?_
 have HRC := hI hrc; clear hrc
 have hDw : w2.heap.size ≤ D := by omega
 have hDl : D < l := by omega
 clear hs2 hD hl
 have HKW := hI hK2; have HD1 := hI hD1; have HL1 := hI hl1
 clear hK2 hD1 hl1
 have hz2 := HB2.out.size
 have q1 := (HKW.out.block _ (lt_of_block K1.out) (by simp)).trans K1.out
 have q2 := (HKW.out.block _ (lt_of_block K2.out) (by simp)).trans K2.out
 have q3 := (HKW.out.block _ (lt_of_block K3.out) (by simp)).trans K3.out
 have q4 := (HKW.out.block w1.heap.size (by omega) (by simp)).trans ((HB2.out.block _ hbA).trans GA.out)
 have q5 := (HKW.out.block b5 (by omega) (by simp)).trans ((HB2.out.block b5 (by omega)).trans G5.out)
 have hl1' := lt_of_block q1
 have hl2' := lt_of_block q2
 have hl3' := lt_of_block q3
 have hk1 := lt_of_block K1.out
 have hk2 := lt_of_block K2.out
 have hk3 := lt_of_block K3.out
 have hlW := lt_of_block HL1.out
 have Q1 := hI q1; have Q2 := hI q2; have Q3 := hI q3; have Q4 := hI q4; have Q5 := hI q5
 clear q1 q2 q3 q4 q5
 have HBW : Hid (Below w.heap.size w W1) := (GB.out.trans (HB2.out.mono GB.out.size)).trans ((HKW.out.to_below (B := w.heap.size) (fun b hb => hb.elim) (by have := GB.out.size; omega)))
 obtain ⟨E, hE⟩ : ∃ E : Nat → Prop, E = fun b => b = l := ⟨_, rfl⟩
 have hEl : ∀ b, E b ↔ b = l := fun b => by rw [hE]
 clear hE
 have HE := hI hEl; clear hEl
 obtain ⟨J, hJ⟩ : ∃ J : Nat → (Nat → Prop) → World → Prop, J = fun i T X => ∃ vw ps, T = capT w1.heap.size E vw ps ∧ ps.map Part.word = (beforeM (lawsD xs) ws ss).take i ∧ ps.length = i ∧ (i : Int) < most ∧ CapU w1.heap.size E W1 vw ps X ∧ X.heap[l]? = some (.loop (rc .ready none)) := ⟨_, rfl⟩
 have HJ := hI hJ; clear hJ
 obtain ⟨Jx, hJx⟩ : ∃ Jx : (Nat → Prop) → World → Prop, Jx = fun T X => ∃ vw ps, T = capT w1.heap.size E vw ps ∧ ps.map Part.word = (beforeM (lawsD xs) ws ss).take most.toNat ∧ (ps.length : Int) = most ∧ CapU w1.heap.size E W1 vw ps X ∧ X.heap[l]? = some (.loop (rc .done (some (.exit 0)))) := ⟨_, rfl⟩
 have HJx := hI hJx; clear hJx
 have hmp : 0 < most := by omega
 refine (sources1_iter (9 - 1) l bs bl bw (by omega) A n c xs Aw nw cw ws As ns cs ss W1 J Jx (capT w1.heap.size E (.slice none 0 0) []) W1.heap.size ?hu ?h0 (wrong_none HW0.out).2.2 hnw).mono ?_
 case h0 =>
  rw [HJ.out]
  exact ⟨_, [], rfl, by simp, rfl, by simpa using hmp, CapU.start (by omega) (fun k hk => by have := (HE.out k).1 hk; omega) Q4.out, HL1.out⟩
 case hu =>
  have HRD : Hid (∀ vw ps X, CapU w1.heap.size E W1 vw ps X → X.heap[b5]? = some (.cells #[.int .i64 most] 3 (0, 0)) ∧ X.heap[bs]? = some (.cells #[.slice As ns cs] 32 (0, 0)) ∧ X.heap[bl]? = some (.cells #[.slice A n c] 35 (0, 0)) ∧ X.heap[bw]? = some (.cells #[.slice Aw nw cw] 32 (0, 0)) ∧
    IsLaws X A n c xs ∧ IsWord X Aw nw cw ws ∧ IsWord X As ns cs ss ∧ TabOK X) := by
   intro vw ps X h
   have hX : Below w.heap.size w X := HBW.out.trans (h.kp.to_below (B := w.heap.size) (fun b hb => hb.elim (fun hb => by omega) (fun hb => by have := (HE.out b).1 hb; omega)) HBW.out.size)
   have hno : ∀ b, b ≠ w1.heap.size → b < l → ¬ (b = w1.heap.size ∨ E b) := fun b h1 h2 h3 => by
    rcases h3 with h3 | h3
    ·exact h1 h3
    ·have := (HE.out b).1 h3; omega
   exact ⟨(h.kp.block b5 (by omega) (hno _ (by omega) (by omega))).trans Q5.out, (h.kp.block bs hl1' (hno _ (by omega) (by omega))).trans Q1.out, (h.kp.block bl hl2' (hno _ (by omega) (by omega))).trans Q2.out, (h.kp.block bw hl3' (hno _ (by omega) (by omega))).trans Q3.out,
    HX.out.below hX rr, HW.out.below hX rr, HS.out.below hX rr, HT.out.below hX rr⟩
  refine ⟨?hB, ?hlt, ?hst, ?hsx, ?hrd, ?hnd, ?hnx, ?hy⟩
  case hB =>
   intro i T X hx
   rw [HJ.out] at hx
   obtain ⟨vw, ps, rfl, h1, h2, h3, h4, h5⟩ := hx
   exact h4.kp.size
  case hlt =>
   intro i T X hx
   rw [HJ.out] at hx
   obtain ⟨vw, ps, rfl, h1, h2, h3, h4, h5⟩ := hx
   exact h4.lts
  case hst =>
   intro i T X X' hx hk
   rw [HJ.out] at hx ⊢
   obtain ⟨vw, ps, rfl, h1, h2, h3, h4, h5⟩ := hx
   exact ⟨vw, ps, rfl, h1, h2, h3, h4.keep hk, (hk.block l (lt_of_block h5) (fun e => e.2 (.inr (.inl ((HE.out l).2 rfl))))).trans h5⟩
  case hsx =>
   intro T X X' hx hk
   rw [HJx.out] at hx ⊢
   obtain ⟨vw, ps, rfl, h1, h2, h4, h5⟩ := hx
   exact ⟨vw, ps, rfl, h1, h2, h4.keep hk, (hk.block l (lt_of_block h5) (fun e => e.2 (.inr (.inl ((HE.out l).2 rfl))))).trans h5⟩
  case hrd =>
   intro i T X hx
   rw [HJ.out] at hx
   obtain ⟨vw, ps, rfl, h1, h2, h3, h4, h5⟩ := hx
   exact (HRD.out _ _ _ h4).2
  case hnd =>
   intro i T X hx
   rw [HJ.out] at hx
   obtain ⟨vw, ps, rfl, h1, h2, h3, h4, h5⟩ := hx
   exact h4.nds fun k hk x e => by
    rw [(HE.out k).1 hk, h5] at e; cases e
  case hnx =>
   intro T X hx
   rw [HJx.out] at hx
   obtain ⟨vw, ps, rfl, h1, h2, h4, h5⟩ := hx
   exact h4.nds fun k hk x e => by
    rw [(HE.out k).1 hk, h5] at e; cases e
  case hy =>
   intro i T X A' k' c' x hxi hwd hfr hx
   rw [HJ.out] at hx
   obtain ⟨vw, ps, rfl, h1, h2, h3, h4, h5⟩ := hx
   refine wide_round HRC.out h5 rfl ?_
   have hnl : k' ≤ 4096 := by
    have hm := ((before_mem _ _ _ _).1 (List.mem_of_getElem? hxi)).1.1
    have := hwd.len
    omega
   have hbfl := before_short (ls := lawsD xs) (w := ws) (refused_none (wrong_none HW0.out).2.2).2.2 (refused_none (wrong_none HW0.out).2.2).1
   have hil : i < 20000 := by have := (List.getElem?_eq_some_iff.1 hxi).1; omega
   clear hbfl
   have HXI := hI hxi; have HWD := hI hwd; have HFR := hI hfr; have HPS := hI h1; have HPL := hI h2; have H3 := hI h3; have HC := hI h4; have H5 := hI h5
   clear hxi hwd hfr h1 h2 h3 h4 h5
   gi_wp2
   refine ⟨H5.out, ?_⟩
   have hkv : Keep E X (X.putObj l (.loop (rc .busy none))) := (Keep.refl E X).putObj ((HE.out l).2 rfl) _
   have hcv : CapU w1.heap.size E W1 vw ps (X.putObj l (.loop (rc .busy none))) := HC.out.beside hkv
   have hwv : IsWord (X.putObj l (.loop (rc .busy none))) A' k' c' x := HWD.out.keep hkv fun _ ad had e => (HFR.out ad had).2 (.inr (.inl e))
   have hlv : (X.putObj l (.loop (rc .busy none))).heap[l]? = some (.loop (rc .busy none)) := World.putObj_heap_same (lt_of_block H5.out)
   have hsv : (X.putObj l (.loop (rc .busy none))).heap.size = X.heap.size := by simp
   generalize X.putObj l (.loop (rc .busy none)) = V at *
   obtain ⟨r5, -⟩ := HRD.out _ _ _ hcv
   have c7 := cell_of_one hcv.c7
   have HCV := hI hcv; have HWV := hI hwv; have HKV := hI hkv; have HLV := hI hlv; have HSV := hI hsv; have R5 := hI r5
   clear hcv hwv hkv hlv hsv r5
   gi_wp2
   refine round_region (fun W' => W'.cell? ⟨w1.heap.size, 0, none⟩ = some vw) (by kernel_rfl) (by kernel_rfl) (fun _ _ h => by exact h) c7 (fun hHeld => ?_)
   (refine' anyT_tk 0 rfl ?_; (try simp only [Act.put, nY, nX])); (refine' anyT_tk 1 rfl ?_; (try simp only [Act.put, nY, nX]))
   (refine anyT_sp 2 rfl (fun K' hK' => ?_); simp only [nY]; go_simp)
   refine (clone_c A' k' c' x _ (HWV.out.below (B := V.heap.size) ((Below.refl V.heap.size V).drew) rr) hnl).mono ?_
   rintro e w3 ⟨A3, n3, c3, rfl, hw3, hb3, hf3⟩
   have hb3' : Below V.heap.size V w3 := (Below.refl V.heap.size V).drew.trans hb3
   have g7 := (hb3'.block _ (lt_of_block HCV.out.c7)).trans HCV.out.c7
   refine hK' _ _ ⟨.inr (cell_of_one g7), fun _ => ?_⟩
   clear hK' K'
   (try simp only [Act.put, nY, nX])
   (refine anyT_sp 3 rfl (fun K' hK' => ?_); simp only [nY]; go_simp)
   have z1 : (w3.alloc (.cells #[.slice A3 n3 c3] 32)).heap[w3.heap.size]? = some (.cells #[.slice A3 n3 c3] 32 (0, 0)) := heap_new_at rfl
   have g7' := (heap_old_at (o := .cells #[.slice A3 n3 c3] 32) (lt_of_block g7)).trans g7
   have o7 := (own_keep HCV.out.o7 hb3' rr).alloc (.cells #[.slice A3 n3 c3] 32)
   refine hK' _ _ ⟨.inr (cell_of_one g7'), fun _ => ?_⟩
   clear hK' K' c7 hHeld
   (try simp only [Act.put, nY, nX])
   have hVB : W1.heap.size ≤ V.heap.size := HCV.out.kp.size
   have hV3 := hb3'.size
   have hpl' : ps.length < 20000 := by have := HPL.out; omega
   refine anyT_sp 4 rfl (fun K' hK' => ?_)
   rw [if_pos (by rfl)]
   refine wp_append_own_at (.tmp 29) (.tmp 32) 46 rfl W1.heap.size 32 (.slice none 0 0) 1 24 Tryz.underlying46 words_info rfl (by decide) vw ps.length (ps.map Part.val) (by rfl) o7 ⟨w3.heap.size, 0, none⟩ 1 1 [.slice A3 n3 c3] (by rfl) rfl (one_cells z1) (by intro u hu; simp at hu; subst hu; rfl) (by unfold maxLen; omega) (by omega) (by simp; omega) ?_
   intro vw' X2 hown hg _ hat
   obtain ⟨A9, k9, rfl⟩ := own_form hown
   have hn7 : some w1.heap.size ≠ vw.ownBlock := fun e => by have := (HCV.out.o7.lt w1.heap.size e.symm).1; omega
   have x7 := (hg.block w1.heap.size (lt_of_block g7') hn7).trans g7'
   have c7 := cell_of_one x7
   have f7 := free_of_one x7
   have gl := (hb3'.block _ (lt_of_block HLV.out)).trans HLV.out
   have gl' := (heap_old_at (o := .cells #[.slice A3 n3 c3] 32) (lt_of_block gl)).trans gl
   have hnl7 : some l ≠ vw.ownBlock := fun e => by have := (HCV.out.o7.lt l e.symm).1; omega
   have xl := (hg.block l (lt_of_block gl') hnl7).trans gl'
   have YL := hI ((Below.heap_setCell X2 ⟨w1.heap.size, 0, none⟩ (.slice A9 (ps.length + 1) k9) l (by simp; omega)).trans xl)
   clear gl gl' hnl7 xl
   refine hK' _ _ ⟨.inr c7, fun _ => ?_⟩
   clear hK' K'
   have hdz : V.drew.heap.size = V.heap.size := rfl
   rw [hdz] at hf3
   clear hdz
   obtain ⟨p1, p2, p3⟩ := HCV.out.push hb3' hw3 (fun ad had => ⟨by have := hf3 ad had; omega, fun h => by have := HCV.out.lts _ h; have := hf3 ad had; omega⟩) hown hg hat
   have P1 := hI p1; clear p1
   have P2 := hI p2; clear p2
   have hp3 : ∀ b, capT w1.heap.size E (.slice A9 (ps.length + 1) k9) (ps ++ [(A3, n3, c3, x)]) b → capT w1.heap.size E vw ps b ∨ X.heap.size ≤ b := fun b hb => by
    rcases p3 b hb with h | h | ⟨_, ad, had, h⟩
    ·exact .inl h
    ·exact .inr (by rw [← HSV.out]; exact h)
    ·exact .inr (by rw [← HSV.out, ← h]; exact hf3 ad had)
   have P3 := hI hp3; clear p3 hp3
   clear hown hg hat g7 g7' z1 o7 x7 hn7 hw3 hf3 hb3 hb3'
   (try simp only [Act.put, nY, nX])
   (refine anyT_sp 5 rfl (fun K' hK' => ?_); simp only [nY]; go_simp)
   refine hK' _ _ ⟨.inl (by kernel_rfl), fun _ => anyT_done (by kernel_rfl) ?_ _⟩
   clear hK' K' c7 f7
   generalize X2.setCell ⟨w1.heap.size, 0, none⟩ (.slice A9 (ps.length + 1) k9) = Y at *
   have y7 := cell_of_one P1.out.c7
   have y5 := cell_of_one (HRD.out _ _ _ P1.out).1
   have HKY : Hid (Keep (capT w1.heap.size E vw ps) X Y) := (HKV.out.mono fun b hb => .inr (.inl hb)).trans P2.out
   have HWP : Hid ((ps ++ [(A3, n3, c3, x)]).map Part.word = (beforeM (lawsD xs) ws ss).take (i + 1)) := by
    show _ = _
    rw [List.map_append, HPS.out, take_snoc' _ i x HXI.out]; rfl
   by_cases he : (ps.length : Int) + 1 = most
   ·have he1 : ((ps.length : Int) + 1 == most) = true := by simpa using he
    gi_wp2
    refine ⟨YL.out, HKY.out.putObj (.inr (.inl ((HE.out l).2 rfl))) _, .inr ⟨rfl, _, ?_, P3.out⟩⟩
    rw [HJx.out]
    have hmt : most.toNat = i + 1 := by have := HPL.out; omega
    exact ⟨_, _, rfl, by rw [hmt]; exact HWP.out, by rw [List.length_append]; simp; omega, P1.out.beside ((Keep.refl E Y).putObj ((HE.out l).2 rfl) _), World.putObj_heap_same (lt_of_block YL.out)⟩
   ·have he1 : ((ps.length : Int) + 1 == most) = false := by simpa using he
    gi_wp2
    refine ⟨YL.out, HKY.out.putObj (.inr (.inl ((HE.out l).2 rfl))) _, .inl ⟨rfl, _, ?_, P3.out⟩⟩
    rw [HJ.out]
    exact ⟨_, _, rfl, HWP.out, by rw [List.length_append, HPL.out]; rfl, by have := HPL.out; have := H3.out; omega, P1.out.beside ((Keep.refl E Y).putObj ((HE.out l).2 rfl) _), World.putObj_heap_same (lt_of_block YL.out)⟩
 rintro e W' ⟨⟨v, rfl⟩, ⟨T, hj⟩ | ⟨T, hx⟩⟩
 ·rw [HJ.out] at hj
  obtain ⟨vw, ps, rfl, h1, h2, h3, h4, h5⟩ := hj
  refine .inl ⟨h5, ?_⟩
  have xC := h4.beside ((Keep.refl E W').putObj ((HE.out l).2 rfl) (.loop (rc .exhausted none)))
  generalize W'.putObj l (.loop (rc .exhausted none)) = X at *
  obtain ⟨A9, k9, rfl⟩ := own_form xC.o7
  have c7 := cell_of_one xC.c7
  have XC := hI xC
  have HWS : Hid (ps.map Part.word = (beforeM (lawsD xs) ws ss).take most.toNat) := by
   show _ = _
   rw [h1, List.take_of_length_le rr, List.take_of_length_le (by omega)]
  clear h1 h2 h4 h5 xC
  gi_wp2
  have hM : Marks w.heap.size X [mark D] := ⟨D, rfl, by have := HB1.out.size; omega, (XC.out.kp.block D (by omega) (fun h => h.elim (fun h => by omega) (fun h => by have := (HE.out D).1 h; omega))).trans HD1.out, by simp, trivial⟩
  have hX : Below w.heap.size w X := HBW.out.trans (XC.out.kp.to_below (B := w.heap.size) (fun b hb => hb.elim (fun hb => by omega) (fun hb => by have := (HE.out b).1 hb; omega)) HBW.out.size)
  exact post_tmp2 (B := w.heap.size) Tryz.results62 _ _ rfl rfl hM fun w' hw' => ⟨A9, ps.length, k9, by rw [HM.out]; rfl, by rw [HM.out]; exact ⟨ps, HWS.out, Cells.of_own (own_shut XC.out.o7 hw') (by decide), fun p hp => (XC.out.pp p hp).shut hw'⟩, hX.trans hw'.below⟩
 ·rw [HJx.out] at hx
  obtain ⟨vw, ps, rfl, h1, h2, h4, h5⟩ := hx
  refine .inr ⟨.exit 0, h5, ?_⟩
  have xC := h4.beside ((Keep.refl E W').putObj ((HE.out l).2 rfl) (.loop (rc .exhausted (some (.exit 0)))))
  generalize W'.putObj l (.loop (rc .exhausted (some (.exit 0)))) = X at *
  obtain ⟨A9, k9, rfl⟩ := own_form xC.o7
  have c7 := cell_of_one xC.c7
  have XC := hI xC
  have HWS : Hid (ps.map Part.word = (beforeM (lawsD xs) ws ss).take most.toNat) := by
   show _ = _
   exact h1
  clear h1 h2 h4 h5 xC
  gi_wp2
  have hM : Marks w.heap.size X [mark D] := ⟨D, rfl, by have := HB1.out.size; omega, (XC.out.kp.block D (by omega) (fun h => h.elim (fun h => by omega) (fun h => by have := (HE.out D).1 h; omega))).trans HD1.out, by simp, trivial⟩
  have hX : Below w.heap.size w X := HBW.out.trans (XC.out.kp.to_below (B := w.heap.size) (fun b hb => hb.elim (fun hb => by omega) (fun hb => by have := (HE.out b).1 hb; omega)) HBW.out.size)
  exact post_tmp2 (B := w.heap.size) Tryz.results62 _ _ rfl rfl hM fun w' hw' => ⟨A9, ps.length, k9, by rw [HM.out]; rfl, by rw [HM.out]; exact ⟨ps, HWS.out, Cells.of_own (own_shut XC.out.o7 hw') (by decide), fun p hp => (XC.out.pp p hp).shut hw'⟩, hX.trans hw'.below⟩
end Go.Proofs.YtlgliddhideflaaGreatDoor
namespace Go.Proofs.YtlgliddhideflaaGreatDoor
open Go.RowKit Go.Shelf
theorem back_c (x : LawR) (Aw : Option Addr) (nw cw : Nat) (ws : List Snd) (As : Option Addr) (ns cs : Nat) (ss : List Snd) (most : Int) (w : World) (hx : LawAt w x.l x.a) (hw : IsWord w Aw nw cw ws) (hs : IsWord w As ns cs ss) (hT : TabOK w) (hnw : nw ≤ 4096) :
  Calls Tryz.prog 43 #[lawV x.l x.a, .slice Aw nw cw, .slice As ns cs, .int .i64 most] w (RetWsE w (backM [x.l] ws ss most)) := by
 have HX := hI hx; have HW := hI hw; have HS := hI hs; have HT := hI hT
 clear hx hw hs hT
 obtain ⟨Wb, hWb, hrb, hlb, hBb, hzb⟩ := law_box w x.l x.a
 have HL := hI (HX.out.below hBb rr)
 go_enter Tryz.func43, Tryz.ntmps43
 go_wp2_with (first | (refine load_law rfl (.tmp 4) rfl w.heap.size x.l x.a rfl hrb ?_) | (refine law1A rfl (.tmp 10) rfl x rfl HL.out ?hk))
 case hk =>
  intro X hl2 hb hzz _
  clear hzz
  have hB : Below w.heap.size w X := hBb.trans (hb.mono hBb.size)
  have HB := hI hB
  have HL2 := hI hl2
  clear hl2 hb hB
  go_wp2_with fail
  refine (backAll_c _ 1 1 [x] Aw nw cw ws As ns cs ss most X HL2.out (HW.out.below HB.out rr) (HS.out.below HB.out rr) (HT.out.below HB.out rr) hnw).mono ?_
  rintro e X2 ⟨A9, n9, c9, rfl, hw9, hb9⟩
  go_wp2
  exact bodyPost_ret (v := .tuple #[.slice A9 n9 c9, .int .i64 (backM [x.l] ws ss most).1]) (results_tmp2 Tryz.results43 _ _ _) rfl ⟨A9, n9, c9, rfl, hw9, HB.out.trans (hb9.mono HB.out.size)⟩
end Go.Proofs.YtlgliddhideflaaGreatDoor

/-
  The examples of chapter 11 hold.
-/
import Derived.Test.YtlgliddhideflaaGreatDoorH06
import Derived.Test.YtlgliddhideflaaGreatDoorXWs11
set_option linter.all false
set_option maxRecDepth 100000
set_option maxHeartbeats 4000000
namespace Go.Proofs.YtlgliddhideflaaGreatDoor
open Go.RowKit Go.Shelf
theorem anyT_three {P : Program} {ops : Array Oper} {Q : Exit → Act → World → Prop} {md : Region.Mode} {S : World → Prop} {i j l : Nat} {oi oj ol : Oper} {fuel : Nat} {listed : Array Bool} {a : Act} {w : World} (hr : Region.ready md ops listed = [i, j, l]) (hi : ops[i]? = some oi) (hj : ops[j]? = some oj) (hl : ops[l]? = some ol)
  (h1 : ∀ K' : Act → World → Prop, (∀ a w, (allDone (listed.setIfInBounds i true) = true ∨ S w) ∧ ((allDone (listed.setIfInBounds i true) = true ∨ S w) → anyT P md ops Q S fuel (listed.setIfInBounds i true) a w) → K' a w) →
   if Region.wanted oi (yielded ops a.tmps) = true then Oper.wp P oi a w K' Q else K' (a.put oi.dst undef) w)
  (h2 : ∀ K' : Act → World → Prop, (∀ a w, (allDone (listed.setIfInBounds j true) = true ∨ S w) ∧ ((allDone (listed.setIfInBounds j true) = true ∨ S w) → anyT P md ops Q S fuel (listed.setIfInBounds j true) a w) → K' a w) →
   if Region.wanted oj (yielded ops a.tmps) = true then Oper.wp P oj a w K' Q else K' (a.put oj.dst undef) w)
  (h4 : ∀ K' : Act → World → Prop, (∀ a w, (allDone (listed.setIfInBounds l true) = true ∨ S w) ∧ ((allDone (listed.setIfInBounds l true) = true ∨ S w) → anyT P md ops Q S fuel (listed.setIfInBounds l true) a w) → K' a w) →
   if Region.wanted ol (yielded ops a.tmps) = true then Oper.wp P ol a w K' Q else K' (a.put ol.dst undef) w) : anyT P md ops Q S (fuel + 1) listed a w := by
 refine ⟨fun h0 => (by rw [hr] at h0; cases h0), fun k hk => ?_⟩
 rw [hr] at hk
 have hk' : k = i ∨ k = j ∨ k = l := by simpa using hk
 rcases hk' with rfl | rfl | rfl
 ·have h3 := h1 _ (fun a w h => (⟨h.1, h.2 h.1⟩ : (allDone (listed.setIfInBounds k true) = true ∨ S w) ∧ anyT P md ops Q S fuel (listed.setIfInBounds k true) a w))
  unfold wpOp
  rw [hi]
  simp only
  split
  ·rename_i hw; rw [if_pos hw] at h3; exact .inl h3
  ·rename_i hw; rw [if_neg hw] at h3; exact h3
 ·have h3 := h2 _ (fun a w h => (⟨h.1, h.2 h.1⟩ : (allDone (listed.setIfInBounds k true) = true ∨ S w) ∧ anyT P md ops Q S fuel (listed.setIfInBounds k true) a w))
  unfold wpOp
  rw [hj]
  simp only
  split
  ·rename_i hw; rw [if_pos hw] at h3; exact .inl h3
  ·rename_i hw; rw [if_neg hw] at h3; exact h3
 ·have h3 := h4 _ (fun a w h => (⟨h.1, h.2 h.1⟩ : (allDone (listed.setIfInBounds k true) = true ∨ S w) ∧ anyT P md ops Q S fuel (listed.setIfInBounds k true) a w))
  unfold wpOp
  rw [hl]
  simp only
  split
  ·rename_i hw; rw [if_pos hw] at h3; exact .inl h3
  ·rename_i hw; rw [if_neg hw] at h3; exact h3
theorem snd_set {w : World} {b : Nat} {u v x y : Value} {t : TypeId} (h : w.heap[b]? = some (.cells #[u, v] t (0, 0))) :
  (w.setCell ⟨b, 0, none⟩ x).heap[b]? = some (.cells #[x, v] t (0, 0)) ∧ ((w.setCell ⟨b, 0, none⟩ x).setCell ⟨b, 1, none⟩ y).heap[b]? = some (.cells #[x, y] t (0, 0)) :=
 ⟨heap_setCell_same h, heap_setCell_same (heap_setCell_same h)⟩
theorem al3 (W : World) : ((((W.alloc (.cells #[.int .u32 0, .int .u32 0] 24)).alloc (.cells #[.int .u32 0, .int .u32 0] 24)).alloc (.cells #[.int .u32 0, .int .u32 0] 24)).drew).heap[W.heap.size]? = some (.cells #[.int .u32 0, .int .u32 0] 24 (0, 0)) ∧ ((((W.alloc (.cells #[.int .u32 0, .int .u32 0] 24)).alloc (.cells #[.int .u32 0, .int .u32 0] 24)).alloc (.cells #[.int .u32 0, .int .u32 0] 24)).drew).heap[W.heap.size + 1]? = some (.cells #[.int .u32 0, .int .u32 0] 24 (0, 0)) ∧
  ((((W.alloc (.cells #[.int .u32 0, .int .u32 0] 24)).alloc (.cells #[.int .u32 0, .int .u32 0] 24)).alloc (.cells #[.int .u32 0, .int .u32 0] 24)).drew).heap[W.heap.size + 1 + 1]? = some (.cells #[.int .u32 0, .int .u32 0] 24 (0, 0)) ∧ Below W.heap.size W ((((W.alloc (.cells #[.int .u32 0, .int .u32 0] 24)).alloc (.cells #[.int .u32 0, .int .u32 0] 24)).alloc (.cells #[.int .u32 0, .int .u32 0] 24)).drew) := ⟨hpt, hpt, hpt, bel⟩
theorem snd_put {w X : World} {B b : Nat} {x y u v : Value} {t : TypeId} (h : X.heap[b]? = some (.cells #[u, v] t (0, 0))) (hB : Below B w X) (hb : B ≤ b) :
  ((X.setCell ⟨b, 0, none⟩ x).setCell ⟨b, 1, none⟩ y).heap[b]? = some (.cells #[x, y] t (0, 0)) ∧ Below B w ((X.setCell ⟨b, 0, none⟩ x).setCell ⟨b, 1, none⟩ y) ∧ ∀ k, k ≠ b → ((X.setCell ⟨b, 0, none⟩ x).setCell ⟨b, 1, none⟩ y).heap[k]? = X.heap[k]? :=
 ⟨(snd_set h).2, (hB.setCell (p := ⟨b, 0, none⟩) hb x).setCell (p := ⟨b, 1, none⟩) hb y, fun k hk => (Below.heap_setCell _ _ _ _ (by simpa using hk)).trans (Below.heap_setCell _ _ _ _ (by simpa using hk))⟩
theorem works11_c (w : World) (hT : TabOK w) : Calls Tryz.prog 42 #[] w fun e w' => e = .returned (.bool true) ∧ Below w.heap.size w w' := by
 have HT := hI hT; clear hT
 go_enter Tryz.func42, Tryz.ntmps42
 go_wp2_with fail
 refine (exm11_c w).mono ?_
 rintro e w1 ⟨Al, cl, av, af, rfl, hl, hv, hf, hb1⟩
 have HL := hI hl; have HV := hI hv; have HF := hI hf; have HB1 := hI hb1
 clear hl hv hf hb1
 go_wp2_with (first | (refine store_law rfl (.tmp 2) (.tmp 18) rfl w1.heap.size vD av rfl rfl (t := 34) (by repeat (first | exact heap_new_at sd | rw [heap_old_at sd])) rfl ?hs2))
 case hs2 =>
  intro W2 g1 g2 g3
  have hz2 : W2.heap.size = w1.heap.size + 2 := by first | exact g3 | (rw [g3]; simp; done)
  have o3 : ∃ old : Array Value, W2.heap[w1.heap.size + 1]? = some (.cells old 34 (0, 0)) ∧ old.size = 18 := ⟨_, (g2.block _ sd (by omega)).trans (heap_new_at (by simp)), rfl⟩
  obtain ⟨old3, o3, z3⟩ := o3
  have hB2 : Below w1.heap.size w1 W2 := Below.trans bel (g2.to_below (B := w1.heap.size) (fun k hk => by omega) sd)
  have G1 := hI g1; have Z3 := hI z3; have HB2 := hI hB2
  clear g1 g2 g3 z3 hB2
  go_wp2_with (first | (refine store_law rfl (.tmp 3) (.tmp 19) rfl (w1.heap.size + 1) fD af rfl rfl (t := 34) o3 Z3.out ?hs3))
  case hs3 =>
   intro W3 g4 g5 g6
   have hz3 : W3.heap.size = w1.heap.size + 2 := by first | exact g6 | (rw [g6, hz2]; done)
   have hB3 : Below w1.heap.size w1 W3 := HB2.out.trans (g5.to_below (B := w1.heap.size) (fun k hk => by omega) HB2.out.size)
   have K2 : Hid (W3.heap[w1.heap.size]? = some (.cells (lawCs vD av) 34 (0, 0))) := (g5.block _ (by omega) (by omega)).trans G1.out
   have K3 := hI g4; have HB3 := hI hB3
   have hz4 : w1.heap.size + 2 ≤ W3.heap.size := by omega
   clear g4 g5 g6 hz2 hz3 hB3 o3
   have hz4 := hI hz4
   obtain ⟨N, hN⟩ : ∃ N, N = W3.heap.size := ⟨_, rfl⟩
   obtain ⟨bl, ol, p0, m0, hA, hbl, e0, c00, c01⟩ := (HL.out.below HB3.out rr).at_ (k := 0) (by omega)
   obtain ⟨bl', ol', p1, m1, hA', -, e1, c10, c11⟩ := (HL.out.below HB3.out rr).at_ (k := 1) (by omega)
   obtain ⟨bl2, ol2, p2, m2, hA2, -, e2, c20, c21⟩ := (HL.out.below HB3.out rr).at_ (k := 2) (by omega)
   obtain ⟨rfl, rfl⟩ : bl' = bl ∧ ol' = ol := by rw [hA] at hA'; injection hA' with h; injection h with h1 h2; exact ⟨h1.symm, h2.symm⟩
   obtain ⟨rfl, rfl⟩ : bl2 = bl' ∧ ol2 = ol' := by rw [hA] at hA2; injection hA2 with h; injection h with h1 h2; exact ⟨h1.symm, h2.symm⟩
   obtain ⟨rfl, rfl⟩ : p0 = 2 ∧ m0 = 5 := by simpa [sP, eq_comm] using e0
   obtain ⟨rfl, rfl⟩ : p1 = 3 ∧ m1 = 4 := by simpa [sB, eq_comm] using e1
   obtain ⟨rfl, rfl⟩ : p2 = 5 ∧ m2 = 2 := by simpa [sA, eq_comm] using e2
   subst hA
   clear hA' hA2 e0 e1 e2
   simp only [Nat.zero_mul, Nat.one_mul, Nat.add_zero] at c00 c01 c10 c11 c20 c21
   go_wp2_with fail
   refine wp_mono (Q := OnlyN fun a' W' => ∃ x y z : Nat, a' = { tmps := #[.bool false, .slice (some ⟨bl2, ol2, none⟩) 3 cl, .pointer (some ⟨w1.heap.size, 0, none⟩), .pointer (some ⟨w1.heap.size + 1, 0, none⟩), .pointer (some ⟨x, 0, none⟩), .pointer (some ⟨y, 0, none⟩), .pointer (some ⟨z, 0, none⟩), undef, undef, undef, undef, undef, undef, undef, undef, .tuple #[.slice (some ⟨bl2, ol2, none⟩) 3 cl, lawV vD av, lawV fD af], .tuple #[.slice (some ⟨bl2, ol2, none⟩) 3 cl, lawV vD av, lawV fD af], .slice (some ⟨bl2, ol2, none⟩) 3 cl, lawV vD av, lawV fD af, .slice (some ⟨bl2, ol2, none⟩) 3 cl, .pointer (some ⟨bl2, ol2, none⟩), .agg #[.int .u32 2, .int .u32 5], .slice (some ⟨bl2, ol2, none⟩) 3 cl, .pointer (some ⟨bl2, ol2 + 2, none⟩), .agg #[.int .u32 3, .int .u32 4], .slice (some ⟨bl2, ol2, none⟩) 3 cl, .pointer (some ⟨bl2, ol2 + 2 * 2, none⟩), .agg #[.int .u32 5, .int .u32 2], undef, undef, undef, undef, undef, undef, undef, undef, undef, undef, undef, undef, undef, undef, undef, undef, undef, undef, undef, undef, undef, undef, undef, undef, undef, undef, undef, undef, undef, undef, undef, undef, undef, undef, undef, undef, undef, undef, undef, undef, undef, undef, undef, undef, undef, undef, undef, undef, undef, undef, undef, undef, undef, undef, undef, undef, undef, undef, undef, undef, undef, undef, undef, undef, undef, undef, undef, undef, undef, undef, undef, undef, undef, undef, undef, undef, undef, undef, undef, undef, undef, undef, undef, undef, undef, undef, undef, undef, undef, undef, undef, undef, undef, undef, undef, undef, undef, undef, undef], defers := [] } ∧
    W'.heap[x]? = some (.cells #[.int .u32 2, .int .u32 5] 24 (0, 0)) ∧ W'.heap[y]? = some (.cells #[.int .u32 3, .int .u32 4] 24 (0, 0)) ∧ W'.heap[z]? = some (.cells #[.int .u32 5, .int .u32 2] 24 (0, 0)) ∧ Below W3.heap.size W3 W') ?reg ?cont
   case reg =>
    have HSS : Hid (∀ W' : World, Below W3.heap.size W3 W' → W'.cell? ⟨bl2, ol2, none⟩ = some (.int .u32 2) ∧ W'.cell? ⟨bl2, ol2 + 1, none⟩ = some (.int .u32 5) ∧ W'.cell? ⟨bl2, ol2 + 2, none⟩ = some (.int .u32 3) ∧ W'.cell? ⟨bl2, ol2 + 2 + 1, none⟩ = some (.int .u32 4) ∧ W'.cell? ⟨bl2, ol2 + 2 * 2, none⟩ = some (.int .u32 5) ∧ W'.cell? ⟨bl2, ol2 + 2 * 2 + 1, none⟩ = some (.int .u32 2)) := fun W' hb => ⟨(hb.cell (p := ⟨_, _, none⟩) hbl).trans c00, (hb.cell (p := ⟨_, _, none⟩) hbl).trans c01, (hb.cell (p := ⟨_, _, none⟩) hbl).trans c10, (hb.cell (p := ⟨_, _, none⟩) hbl).trans c11, (hb.cell (p := ⟨_, _, none⟩) hbl).trans c20, (hb.cell (p := ⟨_, _, none⟩) hbl).trans c21⟩
    refine plain_region (fun W' => W'.cell? ⟨bl2, ol2, none⟩ = some (.int .u32 2) ∧ W'.cell? ⟨bl2, ol2 + 1, none⟩ = some (.int .u32 5) ∧ W'.cell? ⟨bl2, ol2 + 2, none⟩ = some (.int .u32 3) ∧ W'.cell? ⟨bl2, ol2 + 2 + 1, none⟩ = some (.int .u32 4) ∧ W'.cell? ⟨bl2, ol2 + 2 * 2, none⟩ = some (.int .u32 5) ∧ W'.cell? ⟨bl2, ol2 + 2 * 2 + 1, none⟩ = some (.int .u32 2)) (by kernel_rfl) ⟨c00, c01, c10, c11, c20, c21⟩ (fun hHeld => ?_)
    (refine' anyT_tk 0 rfl ?_; (try simp only [Act.put, nY, nX])); (refine' anyT_tk 1 rfl ?_; (try simp only [Act.put, nY, nX])); (refine' anyT_tk 2 rfl ?_; (try simp only [Act.put, nY, nX])); (refine' anyT_tk 3 rfl ?_; (try simp only [Act.put, nY, nX])); (refine' anyT_tk 4 rfl ?_; (try simp only [Act.put, nY, nX])); (refine' anyT_tk 5 rfl ?_; (try simp only [Act.put, nY, nX])); (refine' anyT_tk 6 rfl ?_; (try simp only [Act.put, nY, nX])); (refine' anyT_tk 7 rfl ?_; (try simp only [Act.put, nY, nX])); (refine' anyT_tk 8 rfl ?_; (try simp only [Act.put, nY, nX]))
    clear hHeld
    refine anyT_three (i := 9) (j := 10) (l := 11) (by kernel_rfl) rfl rfl rfl (fun K' hK' => ?_) (fun K' hK' => ?_) (fun K' hK' => ?_)
    ·simp only [nY]
     go_simp
     refine hK' _ _ ⟨.inr (HSS.out _ bel), fun _ => ?_⟩
     clear hK' K'
     (try simp only [Act.put, nY, nX])
     refine anyT_two (i := 10) (j := 11) (by kernel_rfl) rfl rfl (fun K' hK' => ?_) (fun K' hK' => ?_)
     ·simp only [nY]
      go_simp
      refine hK' _ _ ⟨.inr (HSS.out _ bel), fun _ => ?_⟩
      clear hK' K'
      (try simp only [Act.put, nY, nX])
      refine anyT_sp 11 rfl (fun K' hK' => ?_)
      simp only [nY]
      go_simp
      refine hK' _ _ ⟨.inr (HSS.out _ bel), fun _ => ?_⟩
      clear hK' K'
      (try simp only [Act.put, nY, nX])
      obtain ⟨h0, h1, h2, hbb⟩ := al3 W3
      generalize ((((W3.alloc (.cells #[.int .u32 0, .int .u32 0] 24)).alloc (.cells #[.int .u32 0, .int .u32 0] 24)).alloc (.cells #[.int .u32 0, .int .u32 0] 24)).drew) = X at *
      obtain ⟨d0, d1, f0, f1⟩ := snd_cells h0
      obtain ⟨s1, _⟩ := snd_set (x := .int .u32 2) (y := .int .u32 5) h0
      obtain ⟨_, d1', _, f1'⟩ := snd_cells s1
      obtain ⟨k1, k2, k3⟩ := snd_put (x := .int .u32 2) (y := .int .u32 5) h0 hbb (show W3.heap.size ≤ W3.heap.size by omega)
      refine anyT_sp 12 rfl (fun K' hK' => ?_)
      simp only [nY]
      go_simp
      refine hK' _ _ ⟨.inr (HSS.out _ k2), fun _ => ?_⟩
      clear hK' K' d0 d1 f0 f1 s1 d1' f1' hbb
      (try simp only [Act.put, nY, nX])
      generalize (X.setCell ⟨W3.heap.size, 0, none⟩ (.int .u32 2)).setCell ⟨W3.heap.size, 1, none⟩ (.int .u32 5) = X1 at *
      have hbb := k2
      have hx := k1
      have hy := (k3 (W3.heap.size + 1) (by omega)).trans h1
      have hz := (k3 (W3.heap.size + 1 + 1) (by omega)).trans h2
      clear k1 k2 k3 h0 h1 h2
      obtain ⟨d0, d1, f0, f1⟩ := snd_cells hy
      obtain ⟨s1, _⟩ := snd_set (x := .int .u32 3) (y := .int .u32 4) hy
      obtain ⟨_, d1', _, f1'⟩ := snd_cells s1
      obtain ⟨k1, k2, k3⟩ := snd_put (x := .int .u32 3) (y := .int .u32 4) hy hbb (show W3.heap.size ≤ W3.heap.size + 1 by omega)
      refine anyT_sp 13 rfl (fun K' hK' => ?_)
      simp only [nY]
      go_simp
      refine hK' _ _ ⟨.inr (HSS.out _ k2), fun _ => ?_⟩
      clear hK' K' d0 d1 f0 f1 s1 d1' f1' hbb
      (try simp only [Act.put, nY, nX])
      generalize (X1.setCell ⟨W3.heap.size + 1, 0, none⟩ (.int .u32 3)).setCell ⟨W3.heap.size + 1, 1, none⟩ (.int .u32 4) = X2 at *
      have hbb := k2
      have hx2 := (k3 (W3.heap.size) (by omega)).trans hx
      have hy2 := k1
      have hz2 := (k3 (W3.heap.size + 1 + 1) (by omega)).trans hz
      clear k1 k2 k3 hx hy hz
      obtain ⟨d0, d1, f0, f1⟩ := snd_cells hz2
      obtain ⟨s1, _⟩ := snd_set (x := .int .u32 5) (y := .int .u32 2) hz2
      obtain ⟨_, d1', _, f1'⟩ := snd_cells s1
      obtain ⟨k1, k2, k3⟩ := snd_put (x := .int .u32 5) (y := .int .u32 2) hz2 hbb (show W3.heap.size ≤ W3.heap.size + 1 + 1 by omega)
      refine anyT_sp 14 rfl (fun K' hK' => ?_)
      simp only [nY]
      go_simp
      refine hK' _ _ ⟨.inr (HSS.out _ k2), fun _ => ?_⟩
      clear hK' K' d0 d1 f0 f1 s1 d1' f1' hbb
      (try simp only [Act.put, nY, nX])
      generalize (X2.setCell ⟨W3.heap.size + 1 + 1, 0, none⟩ (.int .u32 5)).setCell ⟨W3.heap.size + 1 + 1, 1, none⟩ (.int .u32 2) = X3 at *
      have hbb := k2
      refine anyT_done (by kernel_rfl) ?_ _
      exact ⟨_, _, _, rfl, (k3 (W3.heap.size) (by omega)).trans hx2, (k3 (W3.heap.size + 1) (by omega)).trans hy2, k1, hbb⟩
     ·simp only [nY]
      go_simp
      refine hK' _ _ ⟨.inr (HSS.out _ bel), fun _ => ?_⟩
      clear hK' K'
      (try simp only [Act.put, nY, nX])
      refine anyT_sp 10 rfl (fun K' hK' => ?_)
      simp only [nY]
      go_simp
      refine hK' _ _ ⟨.inr (HSS.out _ bel), fun _ => ?_⟩
      clear hK' K'
      (try simp only [Act.put, nY, nX])
      obtain ⟨h0, h1, h2, hbb⟩ := al3 W3
      generalize ((((W3.alloc (.cells #[.int .u32 0, .int .u32 0] 24)).alloc (.cells #[.int .u32 0, .int .u32 0] 24)).alloc (.cells #[.int .u32 0, .int .u32 0] 24)).drew) = X at *
      obtain ⟨d0, d1, f0, f1⟩ := snd_cells h0
      obtain ⟨s1, _⟩ := snd_set (x := .int .u32 2) (y := .int .u32 5) h0
      obtain ⟨_, d1', _, f1'⟩ := snd_cells s1
      obtain ⟨k1, k2, k3⟩ := snd_put (x := .int .u32 2) (y := .int .u32 5) h0 hbb (show W3.heap.size ≤ W3.heap.size by omega)
      refine anyT_sp 12 rfl (fun K' hK' => ?_)
      simp only [nY]
      go_simp
      refine hK' _ _ ⟨.inr (HSS.out _ k2), fun _ => ?_⟩
      clear hK' K' d0 d1 f0 f1 s1 d1' f1' hbb
      (try simp only [Act.put, nY, nX])
      generalize (X.setCell ⟨W3.heap.size, 0, none⟩ (.int .u32 2)).setCell ⟨W3.heap.size, 1, none⟩ (.int .u32 5) = X1 at *
      have hbb := k2
      have hx := k1
      have hy := (k3 (W3.heap.size + 1 + 1) (by omega)).trans h2
      have hz := (k3 (W3.heap.size + 1) (by omega)).trans h1
      clear k1 k2 k3 h0 h1 h2
      obtain ⟨d0, d1, f0, f1⟩ := snd_cells hy
      obtain ⟨s1, _⟩ := snd_set (x := .int .u32 3) (y := .int .u32 4) hy
      obtain ⟨_, d1', _, f1'⟩ := snd_cells s1
      obtain ⟨k1, k2, k3⟩ := snd_put (x := .int .u32 3) (y := .int .u32 4) hy hbb (show W3.heap.size ≤ W3.heap.size + 1 + 1 by omega)
      refine anyT_sp 13 rfl (fun K' hK' => ?_)
      simp only [nY]
      go_simp
      refine hK' _ _ ⟨.inr (HSS.out _ k2), fun _ => ?_⟩
      clear hK' K' d0 d1 f0 f1 s1 d1' f1' hbb
      (try simp only [Act.put, nY, nX])
      generalize (X1.setCell ⟨W3.heap.size + 1 + 1, 0, none⟩ (.int .u32 3)).setCell ⟨W3.heap.size + 1 + 1, 1, none⟩ (.int .u32 4) = X2 at *
      have hbb := k2
      have hx2 := (k3 (W3.heap.size) (by omega)).trans hx
      have hy2 := k1
      have hz2 := (k3 (W3.heap.size + 1) (by omega)).trans hz
      clear k1 k2 k3 hx hy hz
      obtain ⟨d0, d1, f0, f1⟩ := snd_cells hz2
      obtain ⟨s1, _⟩ := snd_set (x := .int .u32 5) (y := .int .u32 2) hz2
      obtain ⟨_, d1', _, f1'⟩ := snd_cells s1
      obtain ⟨k1, k2, k3⟩ := snd_put (x := .int .u32 5) (y := .int .u32 2) hz2 hbb (show W3.heap.size ≤ W3.heap.size + 1 by omega)
      refine anyT_sp 14 rfl (fun K' hK' => ?_)
      simp only [nY]
      go_simp
      refine hK' _ _ ⟨.inr (HSS.out _ k2), fun _ => ?_⟩
      clear hK' K' d0 d1 f0 f1 s1 d1' f1' hbb
      (try simp only [Act.put, nY, nX])
      generalize (X2.setCell ⟨W3.heap.size + 1, 0, none⟩ (.int .u32 5)).setCell ⟨W3.heap.size + 1, 1, none⟩ (.int .u32 2) = X3 at *
      have hbb := k2
      refine anyT_done (by kernel_rfl) ?_ _
      exact ⟨_, _, _, rfl, (k3 (W3.heap.size) (by omega)).trans hx2, (k3 (W3.heap.size + 1 + 1) (by omega)).trans hy2, k1, hbb⟩
    ·simp only [nY]
     go_simp
     refine hK' _ _ ⟨.inr (HSS.out _ bel), fun _ => ?_⟩
     clear hK' K'
     (try simp only [Act.put, nY, nX])
     refine anyT_two (i := 9) (j := 11) (by kernel_rfl) rfl rfl (fun K' hK' => ?_) (fun K' hK' => ?_)
     ·simp only [nY]
      go_simp
      refine hK' _ _ ⟨.inr (HSS.out _ bel), fun _ => ?_⟩
      clear hK' K'
      (try simp only [Act.put, nY, nX])
      refine anyT_sp 11 rfl (fun K' hK' => ?_)
      simp only [nY]
      go_simp
      refine hK' _ _ ⟨.inr (HSS.out _ bel), fun _ => ?_⟩
      clear hK' K'
      (try simp only [Act.put, nY, nX])
      obtain ⟨h0, h1, h2, hbb⟩ := al3 W3
      generalize ((((W3.alloc (.cells #[.int .u32 0, .int .u32 0] 24)).alloc (.cells #[.int .u32 0, .int .u32 0] 24)).alloc (.cells #[.int .u32 0, .int .u32 0] 24)).drew) = X at *
      obtain ⟨d0, d1, f0, f1⟩ := snd_cells h1
      obtain ⟨s1, _⟩ := snd_set (x := .int .u32 2) (y := .int .u32 5) h1
      obtain ⟨_, d1', _, f1'⟩ := snd_cells s1
      obtain ⟨k1, k2, k3⟩ := snd_put (x := .int .u32 2) (y := .int .u32 5) h1 hbb (show W3.heap.size ≤ W3.heap.size + 1 by omega)
      refine anyT_sp 12 rfl (fun K' hK' => ?_)
      simp only [nY]
      go_simp
      refine hK' _ _ ⟨.inr (HSS.out _ k2), fun _ => ?_⟩
      clear hK' K' d0 d1 f0 f1 s1 d1' f1' hbb
      (try simp only [Act.put, nY, nX])
      generalize (X.setCell ⟨W3.heap.size + 1, 0, none⟩ (.int .u32 2)).setCell ⟨W3.heap.size + 1, 1, none⟩ (.int .u32 5) = X1 at *
      have hbb := k2
      have hx := k1
      have hy := (k3 (W3.heap.size) (by omega)).trans h0
      have hz := (k3 (W3.heap.size + 1 + 1) (by omega)).trans h2
      clear k1 k2 k3 h0 h1 h2
      obtain ⟨d0, d1, f0, f1⟩ := snd_cells hy
      obtain ⟨s1, _⟩ := snd_set (x := .int .u32 3) (y := .int .u32 4) hy
      obtain ⟨_, d1', _, f1'⟩ := snd_cells s1
      obtain ⟨k1, k2, k3⟩ := snd_put (x := .int .u32 3) (y := .int .u32 4) hy hbb (show W3.heap.size ≤ W3.heap.size by omega)
      refine anyT_sp 13 rfl (fun K' hK' => ?_)
      simp only [nY]
      go_simp
      refine hK' _ _ ⟨.inr (HSS.out _ k2), fun _ => ?_⟩
      clear hK' K' d0 d1 f0 f1 s1 d1' f1' hbb
      (try simp only [Act.put, nY, nX])
      generalize (X1.setCell ⟨W3.heap.size, 0, none⟩ (.int .u32 3)).setCell ⟨W3.heap.size, 1, none⟩ (.int .u32 4) = X2 at *
      have hbb := k2
      have hx2 := (k3 (W3.heap.size + 1) (by omega)).trans hx
      have hy2 := k1
      have hz2 := (k3 (W3.heap.size + 1 + 1) (by omega)).trans hz
      clear k1 k2 k3 hx hy hz
      obtain ⟨d0, d1, f0, f1⟩ := snd_cells hz2
      obtain ⟨s1, _⟩ := snd_set (x := .int .u32 5) (y := .int .u32 2) hz2
      obtain ⟨_, d1', _, f1'⟩ := snd_cells s1
      obtain ⟨k1, k2, k3⟩ := snd_put (x := .int .u32 5) (y := .int .u32 2) hz2 hbb (show W3.heap.size ≤ W3.heap.size + 1 + 1 by omega)
      refine anyT_sp 14 rfl (fun K' hK' => ?_)
      simp only [nY]
      go_simp
      refine hK' _ _ ⟨.inr (HSS.out _ k2), fun _ => ?_⟩
      clear hK' K' d0 d1 f0 f1 s1 d1' f1' hbb
      (try simp only [Act.put, nY, nX])
      generalize (X2.setCell ⟨W3.heap.size + 1 + 1, 0, none⟩ (.int .u32 5)).setCell ⟨W3.heap.size + 1 + 1, 1, none⟩ (.int .u32 2) = X3 at *
      have hbb := k2
      refine anyT_done (by kernel_rfl) ?_ _
      exact ⟨_, _, _, rfl, (k3 (W3.heap.size + 1) (by omega)).trans hx2, (k3 (W3.heap.size) (by omega)).trans hy2, k1, hbb⟩
     ·simp only [nY]
      go_simp
      refine hK' _ _ ⟨.inr (HSS.out _ bel), fun _ => ?_⟩
      clear hK' K'
      (try simp only [Act.put, nY, nX])
      refine anyT_sp 9 rfl (fun K' hK' => ?_)
      simp only [nY]
      go_simp
      refine hK' _ _ ⟨.inr (HSS.out _ bel), fun _ => ?_⟩
      clear hK' K'
      (try simp only [Act.put, nY, nX])
      obtain ⟨h0, h1, h2, hbb⟩ := al3 W3
      generalize ((((W3.alloc (.cells #[.int .u32 0, .int .u32 0] 24)).alloc (.cells #[.int .u32 0, .int .u32 0] 24)).alloc (.cells #[.int .u32 0, .int .u32 0] 24)).drew) = X at *
      obtain ⟨d0, d1, f0, f1⟩ := snd_cells h2
      obtain ⟨s1, _⟩ := snd_set (x := .int .u32 2) (y := .int .u32 5) h2
      obtain ⟨_, d1', _, f1'⟩ := snd_cells s1
      obtain ⟨k1, k2, k3⟩ := snd_put (x := .int .u32 2) (y := .int .u32 5) h2 hbb (show W3.heap.size ≤ W3.heap.size + 1 + 1 by omega)
      refine anyT_sp 12 rfl (fun K' hK' => ?_)
      simp only [nY]
      go_simp
      refine hK' _ _ ⟨.inr (HSS.out _ k2), fun _ => ?_⟩
      clear hK' K' d0 d1 f0 f1 s1 d1' f1' hbb
      (try simp only [Act.put, nY, nX])
      generalize (X.setCell ⟨W3.heap.size + 1 + 1, 0, none⟩ (.int .u32 2)).setCell ⟨W3.heap.size + 1 + 1, 1, none⟩ (.int .u32 5) = X1 at *
      have hbb := k2
      have hx := k1
      have hy := (k3 (W3.heap.size) (by omega)).trans h0
      have hz := (k3 (W3.heap.size + 1) (by omega)).trans h1
      clear k1 k2 k3 h0 h1 h2
      obtain ⟨d0, d1, f0, f1⟩ := snd_cells hy
      obtain ⟨s1, _⟩ := snd_set (x := .int .u32 3) (y := .int .u32 4) hy
      obtain ⟨_, d1', _, f1'⟩ := snd_cells s1
      obtain ⟨k1, k2, k3⟩ := snd_put (x := .int .u32 3) (y := .int .u32 4) hy hbb (show W3.heap.size ≤ W3.heap.size by omega)
      refine anyT_sp 13 rfl (fun K' hK' => ?_)
      simp only [nY]
      go_simp
      refine hK' _ _ ⟨.inr (HSS.out _ k2), fun _ => ?_⟩
      clear hK' K' d0 d1 f0 f1 s1 d1' f1' hbb
      (try simp only [Act.put, nY, nX])
      generalize (X1.setCell ⟨W3.heap.size, 0, none⟩ (.int .u32 3)).setCell ⟨W3.heap.size, 1, none⟩ (.int .u32 4) = X2 at *
      have hbb := k2
      have hx2 := (k3 (W3.heap.size + 1 + 1) (by omega)).trans hx
      have hy2 := k1
      have hz2 := (k3 (W3.heap.size + 1) (by omega)).trans hz
      clear k1 k2 k3 hx hy hz
      obtain ⟨d0, d1, f0, f1⟩ := snd_cells hz2
      obtain ⟨s1, _⟩ := snd_set (x := .int .u32 5) (y := .int .u32 2) hz2
      obtain ⟨_, d1', _, f1'⟩ := snd_cells s1
      obtain ⟨k1, k2, k3⟩ := snd_put (x := .int .u32 5) (y := .int .u32 2) hz2 hbb (show W3.heap.size ≤ W3.heap.size + 1 by omega)
      refine anyT_sp 14 rfl (fun K' hK' => ?_)
      simp only [nY]
      go_simp
      refine hK' _ _ ⟨.inr (HSS.out _ k2), fun _ => ?_⟩
      clear hK' K' d0 d1 f0 f1 s1 d1' f1' hbb
      (try simp only [Act.put, nY, nX])
      generalize (X2.setCell ⟨W3.heap.size + 1, 0, none⟩ (.int .u32 5)).setCell ⟨W3.heap.size + 1, 1, none⟩ (.int .u32 2) = X3 at *
      have hbb := k2
      refine anyT_done (by kernel_rfl) ?_ _
      exact ⟨_, _, _, rfl, (k3 (W3.heap.size + 1 + 1) (by omega)).trans hx2, (k3 (W3.heap.size) (by omega)).trans hy2, k1, hbb⟩
    ·simp only [nY]
     go_simp
     refine hK' _ _ ⟨.inr (HSS.out _ bel), fun _ => ?_⟩
     clear hK' K'
     (try simp only [Act.put, nY, nX])
     refine anyT_two (i := 9) (j := 10) (by kernel_rfl) rfl rfl (fun K' hK' => ?_) (fun K' hK' => ?_)
     ·simp only [nY]
      go_simp
      refine hK' _ _ ⟨.inr (HSS.out _ bel), fun _ => ?_⟩
      clear hK' K'
      (try simp only [Act.put, nY, nX])
      refine anyT_sp 10 rfl (fun K' hK' => ?_)
      simp only [nY]
      go_simp
      refine hK' _ _ ⟨.inr (HSS.out _ bel), fun _ => ?_⟩
      clear hK' K'
      (try simp only [Act.put, nY, nX])
      obtain ⟨h0, h1, h2, hbb⟩ := al3 W3
      generalize ((((W3.alloc (.cells #[.int .u32 0, .int .u32 0] 24)).alloc (.cells #[.int .u32 0, .int .u32 0] 24)).alloc (.cells #[.int .u32 0, .int .u32 0] 24)).drew) = X at *
      obtain ⟨d0, d1, f0, f1⟩ := snd_cells h1
      obtain ⟨s1, _⟩ := snd_set (x := .int .u32 2) (y := .int .u32 5) h1
      obtain ⟨_, d1', _, f1'⟩ := snd_cells s1
      obtain ⟨k1, k2, k3⟩ := snd_put (x := .int .u32 2) (y := .int .u32 5) h1 hbb (show W3.heap.size ≤ W3.heap.size + 1 by omega)
      refine anyT_sp 12 rfl (fun K' hK' => ?_)
      simp only [nY]
      go_simp
      refine hK' _ _ ⟨.inr (HSS.out _ k2), fun _ => ?_⟩
      clear hK' K' d0 d1 f0 f1 s1 d1' f1' hbb
      (try simp only [Act.put, nY, nX])
      generalize (X.setCell ⟨W3.heap.size + 1, 0, none⟩ (.int .u32 2)).setCell ⟨W3.heap.size + 1, 1, none⟩ (.int .u32 5) = X1 at *
      have hbb := k2
      have hx := k1
      have hy := (k3 (W3.heap.size + 1 + 1) (by omega)).trans h2
      have hz := (k3 (W3.heap.size) (by omega)).trans h0
      clear k1 k2 k3 h0 h1 h2
      obtain ⟨d0, d1, f0, f1⟩ := snd_cells hy
      obtain ⟨s1, _⟩ := snd_set (x := .int .u32 3) (y := .int .u32 4) hy
      obtain ⟨_, d1', _, f1'⟩ := snd_cells s1
      obtain ⟨k1, k2, k3⟩ := snd_put (x := .int .u32 3) (y := .int .u32 4) hy hbb (show W3.heap.size ≤ W3.heap.size + 1 + 1 by omega)
      refine anyT_sp 13 rfl (fun K' hK' => ?_)
      simp only [nY]
      go_simp
      refine hK' _ _ ⟨.inr (HSS.out _ k2), fun _ => ?_⟩
      clear hK' K' d0 d1 f0 f1 s1 d1' f1' hbb
      (try simp only [Act.put, nY, nX])
      generalize (X1.setCell ⟨W3.heap.size + 1 + 1, 0, none⟩ (.int .u32 3)).setCell ⟨W3.heap.size + 1 + 1, 1, none⟩ (.int .u32 4) = X2 at *
      have hbb := k2
      have hx2 := (k3 (W3.heap.size + 1) (by omega)).trans hx
      have hy2 := k1
      have hz2 := (k3 (W3.heap.size) (by omega)).trans hz
      clear k1 k2 k3 hx hy hz
      obtain ⟨d0, d1, f0, f1⟩ := snd_cells hz2
      obtain ⟨s1, _⟩ := snd_set (x := .int .u32 5) (y := .int .u32 2) hz2
      obtain ⟨_, d1', _, f1'⟩ := snd_cells s1
      obtain ⟨k1, k2, k3⟩ := snd_put (x := .int .u32 5) (y := .int .u32 2) hz2 hbb (show W3.heap.size ≤ W3.heap.size by omega)
      refine anyT_sp 14 rfl (fun K' hK' => ?_)
      simp only [nY]
      go_simp
      refine hK' _ _ ⟨.inr (HSS.out _ k2), fun _ => ?_⟩
      clear hK' K' d0 d1 f0 f1 s1 d1' f1' hbb
      (try simp only [Act.put, nY, nX])
      generalize (X2.setCell ⟨W3.heap.size, 0, none⟩ (.int .u32 5)).setCell ⟨W3.heap.size, 1, none⟩ (.int .u32 2) = X3 at *
      have hbb := k2
      refine anyT_done (by kernel_rfl) ?_ _
      exact ⟨_, _, _, rfl, (k3 (W3.heap.size + 1) (by omega)).trans hx2, (k3 (W3.heap.size + 1 + 1) (by omega)).trans hy2, k1, hbb⟩
     ·simp only [nY]
      go_simp
      refine hK' _ _ ⟨.inr (HSS.out _ bel), fun _ => ?_⟩
      clear hK' K'
      (try simp only [Act.put, nY, nX])
      refine anyT_sp 9 rfl (fun K' hK' => ?_)
      simp only [nY]
      go_simp
      refine hK' _ _ ⟨.inr (HSS.out _ bel), fun _ => ?_⟩
      clear hK' K'
      (try simp only [Act.put, nY, nX])
      obtain ⟨h0, h1, h2, hbb⟩ := al3 W3
      generalize ((((W3.alloc (.cells #[.int .u32 0, .int .u32 0] 24)).alloc (.cells #[.int .u32 0, .int .u32 0] 24)).alloc (.cells #[.int .u32 0, .int .u32 0] 24)).drew) = X at *
      obtain ⟨d0, d1, f0, f1⟩ := snd_cells h2
      obtain ⟨s1, _⟩ := snd_set (x := .int .u32 2) (y := .int .u32 5) h2
      obtain ⟨_, d1', _, f1'⟩ := snd_cells s1
      obtain ⟨k1, k2, k3⟩ := snd_put (x := .int .u32 2) (y := .int .u32 5) h2 hbb (show W3.heap.size ≤ W3.heap.size + 1 + 1 by omega)
      refine anyT_sp 12 rfl (fun K' hK' => ?_)
      simp only [nY]
      go_simp
      refine hK' _ _ ⟨.inr (HSS.out _ k2), fun _ => ?_⟩
      clear hK' K' d0 d1 f0 f1 s1 d1' f1' hbb
      (try simp only [Act.put, nY, nX])
      generalize (X.setCell ⟨W3.heap.size + 1 + 1, 0, none⟩ (.int .u32 2)).setCell ⟨W3.heap.size + 1 + 1, 1, none⟩ (.int .u32 5) = X1 at *
      have hbb := k2
      have hx := k1
      have hy := (k3 (W3.heap.size + 1) (by omega)).trans h1
      have hz := (k3 (W3.heap.size) (by omega)).trans h0
      clear k1 k2 k3 h0 h1 h2
      obtain ⟨d0, d1, f0, f1⟩ := snd_cells hy
      obtain ⟨s1, _⟩ := snd_set (x := .int .u32 3) (y := .int .u32 4) hy
      obtain ⟨_, d1', _, f1'⟩ := snd_cells s1
      obtain ⟨k1, k2, k3⟩ := snd_put (x := .int .u32 3) (y := .int .u32 4) hy hbb (show W3.heap.size ≤ W3.heap.size + 1 by omega)
      refine anyT_sp 13 rfl (fun K' hK' => ?_)
      simp only [nY]
      go_simp
      refine hK' _ _ ⟨.inr (HSS.out _ k2), fun _ => ?_⟩
      clear hK' K' d0 d1 f0 f1 s1 d1' f1' hbb
      (try simp only [Act.put, nY, nX])
      generalize (X1.setCell ⟨W3.heap.size + 1, 0, none⟩ (.int .u32 3)).setCell ⟨W3.heap.size + 1, 1, none⟩ (.int .u32 4) = X2 at *
      have hbb := k2
      have hx2 := (k3 (W3.heap.size + 1 + 1) (by omega)).trans hx
      have hy2 := k1
      have hz2 := (k3 (W3.heap.size) (by omega)).trans hz
      clear k1 k2 k3 hx hy hz
      obtain ⟨d0, d1, f0, f1⟩ := snd_cells hz2
      obtain ⟨s1, _⟩ := snd_set (x := .int .u32 5) (y := .int .u32 2) hz2
      obtain ⟨_, d1', _, f1'⟩ := snd_cells s1
      obtain ⟨k1, k2, k3⟩ := snd_put (x := .int .u32 5) (y := .int .u32 2) hz2 hbb (show W3.heap.size ≤ W3.heap.size by omega)
      refine anyT_sp 14 rfl (fun K' hK' => ?_)
      simp only [nY]
      go_simp
      refine hK' _ _ ⟨.inr (HSS.out _ k2), fun _ => ?_⟩
      clear hK' K' d0 d1 f0 f1 s1 d1' f1' hbb
      (try simp only [Act.put, nY, nX])
      generalize (X2.setCell ⟨W3.heap.size, 0, none⟩ (.int .u32 5)).setCell ⟨W3.heap.size, 1, none⟩ (.int .u32 2) = X3 at *
      have hbb := k2
      refine anyT_done (by kernel_rfl) ?_ _
      exact ⟨_, _, _, rfl, (k3 (W3.heap.size + 1 + 1) (by omega)).trans hx2, (k3 (W3.heap.size + 1) (by omega)).trans hy2, k1, hbb⟩
   case cont =>
    intro e a' W4 hq
    cases e <;> first | exact hq.elim | skip
    obtain ⟨x, y, z, rfl, hx, hy, hz, hb4⟩ := hq
    dsimp only
    have hb14 : Below w1.heap.size w1 W4 := HB3.out.trans (hb4.mono HB3.out.size)
    have HB0 : Hid (Below w.heap.size w W4) := HB1.out.trans (hb14.mono HB1.out.size)
    replace HL := hI (HL.out.below hb14 rr)
    replace HV := hI (HV.out.below hb14 rr)
    replace HF := hI (HF.out.below hb14 rr)
    replace HT := hI (HT.out.below HB0.out rr)
    replace K2 := hI ((hb4.block _ (lt_of_block K2.out)).trans K2.out)
    replace K3 := hI ((hb4.block _ (lt_of_block K3.out)).trans K3.out)
    have KX := hI hx; have KY := hI hy; have KZ := hI hz
    clear hb14 hb4 hx hy hz c00 c01 c10 c11 c20 c21 HB1 HB2 HB3 hbl hz4 G1 Z3
    obtain ⟨d5, d52, _, _⟩ := snd_cells KY.out
    obtain ⟨d6, d62, _, _⟩ := snd_cells KZ.out
    go_wp2_with (refine load_law rfl (.tmp 2) rfl w1.heap.size vD av rfl K2.out ?_)
    have hw5 : IsWord (W4.alloc (.cells #[.int .u32 5, .int .u32 2, .int .u32 3, .int .u32 4, .int .u32 5, .int .u32 2] 24)) (some ⟨W4.heap.size, 0, none⟩) 3 3 [sA, sB, sA] := built_word W4 [sA, sB, sA] 24 (by simp)
    have hb5 : Below W4.heap.size W4 (W4.alloc (.cells #[.int .u32 5, .int .u32 2, .int .u32 3, .int .u32 4, .int .u32 5, .int .u32 2] 24)) := bel
    replace HB0 := hI (HB0.out.trans (hb5.mono HB0.out.size))
    replace HL := hI (HL.out.below hb5 rr)
    replace HV := hI (HV.out.below hb5 rr)
    replace HF := hI (HF.out.below hb5 rr)
    replace HT := hI (HT.out.below hb5 rr)
    replace K2 := hI ((hb5.block _ (lt_of_block K2.out)).trans K2.out)
    replace K3 := hI ((hb5.block _ (lt_of_block K3.out)).trans K3.out)
    replace KX := hI ((hb5.block _ (lt_of_block KX.out)).trans KX.out)
    replace KY := hI ((hb5.block _ (lt_of_block KY.out)).trans KY.out)
    replace KZ := hI ((hb5.block _ (lt_of_block KZ.out)).trans KZ.out)
    try replace R1 := hI (R1.out.below hb5 rr)
    try replace R2 := hI (R2.out.below hb5 rr)
    try replace R3 := hI (R3.out.below hb5 rr)
    clear hb5
    clear d5 d52 d6 d62
    generalize W4.alloc (.cells #[.int .u32 5, .int .u32 2, .int .u32 3, .int .u32 4, .int .u32 5, .int .u32 2] 24) = W5 at *
    refine (back_c ⟨vD, av⟩ _ 3 3 [sA, sB, sA] _ 3 cl [sP, sB, sA] 9 W5 HV.out hw5 HL.out HT.out (by omega)).mono ?_
    rw [show backM [vD] [sA, sB, sA] [sP, sB, sA] 9 = (0, [[sA, sP, sA], [sA, sB, sA]]) from ex11_back]
    rintro e W6 ⟨Ax, nx, cx, rfl, hr, hb⟩
    clear hw5
    replace HB0 := hI (HB0.out.trans (hb.mono HB0.out.size))
    replace HL := hI (HL.out.below hb rr)
    replace HV := hI (HV.out.below hb rr)
    replace HF := hI (HF.out.below hb rr)
    replace HT := hI (HT.out.below hb rr)
    replace K2 := hI ((hb.block _ (lt_of_block K2.out)).trans K2.out)
    replace K3 := hI ((hb.block _ (lt_of_block K3.out)).trans K3.out)
    replace KX := hI ((hb.block _ (lt_of_block KX.out)).trans KX.out)
    replace KY := hI ((hb.block _ (lt_of_block KY.out)).trans KY.out)
    replace KZ := hI ((hb.block _ (lt_of_block KZ.out)).trans KZ.out)
    try replace R1 := hI (R1.out.below hb rr)
    try replace R2 := hI (R2.out.below hb rr)
    try replace R3 := hI (R3.out.below hb rr)
    clear hb
    have R1 := hI hr; clear hr
    go_wp2_with (first | (refine load_law rfl (.tmp 2) rfl w1.heap.size vD av rfl K2.out ?_) | (refine load_law rfl (.tmp 3) rfl (w1.heap.size + 1) fD af rfl K3.out ?_) | (refine law2A rfl (.tmp 40) (.tmp 41) rfl ⟨vD, av⟩ ⟨fD, af⟩ rfl rfl HV.out HF.out ?h4))
    case h4 =>
     intro W7 hl7 hb7 _
     replace HB0 := hI (HB0.out.trans (hb7.mono HB0.out.size))
     replace HL := hI (HL.out.below hb7 rr)
     replace HV := hI (HV.out.below hb7 rr)
     replace HF := hI (HF.out.below hb7 rr)
     replace HT := hI (HT.out.below hb7 rr)
     replace K2 := hI ((hb7.block _ (lt_of_block K2.out)).trans K2.out)
     replace K3 := hI ((hb7.block _ (lt_of_block K3.out)).trans K3.out)
     replace KX := hI ((hb7.block _ (lt_of_block KX.out)).trans KX.out)
     replace KY := hI ((hb7.block _ (lt_of_block KY.out)).trans KY.out)
     replace KZ := hI ((hb7.block _ (lt_of_block KZ.out)).trans KZ.out)
     try replace R1 := hI (R1.out.below hb7 rr)
     try replace R2 := hI (R2.out.below hb7 rr)
     try replace R3 := hI (R3.out.below hb7 rr)
     clear hb7
     go_wp2_with fail
     refine (image_c _ 2 2 [⟨vD, av⟩, ⟨fD, af⟩] _ 3 cl [sP, sB, sA] 1 W7 hl7 HL.out HT.out).mono ?_
     rw [show imageM (lawsD [⟨vD, av⟩, ⟨fD, af⟩]) [sP, sB, sA] 1 = (0, [[], [sP], [sB]]) from ex11_image]
     rintro e W8 ⟨Ay, ny, cy, rfl, hr, hb⟩
     clear hl7
     replace HB0 := hI (HB0.out.trans (hb.mono HB0.out.size))
     replace HL := hI (HL.out.below hb rr)
     replace HV := hI (HV.out.below hb rr)
     replace HF := hI (HF.out.below hb rr)
     replace HT := hI (HT.out.below hb rr)
     replace K2 := hI ((hb.block _ (lt_of_block K2.out)).trans K2.out)
     replace K3 := hI ((hb.block _ (lt_of_block K3.out)).trans K3.out)
     replace KX := hI ((hb.block _ (lt_of_block KX.out)).trans KX.out)
     replace KY := hI ((hb.block _ (lt_of_block KY.out)).trans KY.out)
     replace KZ := hI ((hb.block _ (lt_of_block KZ.out)).trans KZ.out)
     try replace R1 := hI (R1.out.below hb rr)
     try replace R2 := hI (R2.out.below hb rr)
     try replace R3 := hI (R3.out.below hb rr)
     clear hb
     have R2 := hI hr; clear hr
     go_wp2_with (first | (refine load_law rfl (.tmp 2) rfl w1.heap.size vD av rfl K2.out ?_) | (refine law1A rfl (.tmp 48) rfl ⟨vD, av⟩ rfl HV.out ?h5))
     case h5 =>
      intro W9 hl9 hb9 _ _
      replace HB0 := hI (HB0.out.trans (hb9.mono HB0.out.size))
      replace HL := hI (HL.out.below hb9 rr)
      replace HV := hI (HV.out.below hb9 rr)
      replace HF := hI (HF.out.below hb9 rr)
      replace HT := hI (HT.out.below hb9 rr)
      replace K2 := hI ((hb9.block _ (lt_of_block K2.out)).trans K2.out)
      replace K3 := hI ((hb9.block _ (lt_of_block K3.out)).trans K3.out)
      replace KX := hI ((hb9.block _ (lt_of_block KX.out)).trans KX.out)
      replace KY := hI ((hb9.block _ (lt_of_block KY.out)).trans KY.out)
      replace KZ := hI ((hb9.block _ (lt_of_block KZ.out)).trans KZ.out)
      try replace R1 := hI (R1.out.below hb9 rr)
      try replace R2 := hI (R2.out.below hb9 rr)
      try replace R3 := hI (R3.out.below hb9 rr)
      clear hb9
      go_wp2_with fail
      refine (lost_c _ 1 1 [⟨vD, av⟩] _ 3 cl [sP, sB, sA] 3 W9 hl9 HL.out HT.out (by intro s hs; simp [sP, sB, sA] at hs; rcases hs with rfl | rfl | rfl <;> exact ⟨⟨by decide, by decide⟩, ⟨by decide, by decide⟩⟩)).mono ?_
      rw [show lostM (lawsD [⟨vD, av⟩]) [sP, sB, sA] 3 = (0, [([sA, sP, sA], [sA, sB, sA])]) from ex11_lost]
      rintro e W10 ⟨Az, nz, cz, qs, rfl, hqs, hr, hb⟩
      clear hl9
      replace HB0 := hI (HB0.out.trans (hb.mono HB0.out.size))
      replace HL := hI (HL.out.below hb rr)
      replace HV := hI (HV.out.below hb rr)
      replace HF := hI (HF.out.below hb rr)
      replace HT := hI (HT.out.below hb rr)
      replace K2 := hI ((hb.block _ (lt_of_block K2.out)).trans K2.out)
      replace K3 := hI ((hb.block _ (lt_of_block K3.out)).trans K3.out)
      replace KX := hI ((hb.block _ (lt_of_block KX.out)).trans KX.out)
      replace KY := hI ((hb.block _ (lt_of_block KY.out)).trans KY.out)
      replace KZ := hI ((hb.block _ (lt_of_block KZ.out)).trans KZ.out)
      try replace R1 := hI (R1.out.below hb rr)
      try replace R2 := hI (R2.out.below hb rr)
      try replace R3 := hI (R3.out.below hb rr)
      clear hb
      have R3 := hI hr; clear hr
      have HQS := hI hqs; clear hqs
      go_wp2_with (refine load_law rfl (.tmp 3) rfl (w1.heap.size + 1) fD af rfl K3.out ?_)
      refine (fixed_c ⟨fD, af⟩ _ 3 cl [sP, sB, sA] 2 W10 HF.out HL.out HT.out).mono ?_
      rw [show fixedM (LawR.mk fD af).l [sP, sB, sA] 2 = (0, 6) from ex11_fixed]
      rintro e W11 ⟨rfl, hb⟩
      replace HB0 := hI (HB0.out.trans (hb.mono HB0.out.size))
      replace HL := hI (HL.out.below hb rr)
      replace HV := hI (HV.out.below hb rr)
      replace HF := hI (HF.out.below hb rr)
      replace HT := hI (HT.out.below hb rr)
      replace K2 := hI ((hb.block _ (lt_of_block K2.out)).trans K2.out)
      replace K3 := hI ((hb.block _ (lt_of_block K3.out)).trans K3.out)
      replace KX := hI ((hb.block _ (lt_of_block KX.out)).trans KX.out)
      replace KY := hI ((hb.block _ (lt_of_block KY.out)).trans KY.out)
      replace KZ := hI ((hb.block _ (lt_of_block KZ.out)).trans KZ.out)
      try replace R1 := hI (R1.out.below hb rr)
      try replace R2 := hI (R2.out.below hb rr)
      try replace R3 := hI (R3.out.below hb rr)
      clear hb
      go_wp2_with fail
      obtain ⟨s, rfl, hsd⟩ : ∃ s : PairR, qs = [s] ∧ s.data = ([sA, sP, sA], [sA, sB, sA]) := by
       have h : qs.map PairR.data = [([sA, sP, sA], [sA, sB, sA])] := HQS.out
       match qs, h with
       | [], h => exact absurd h (by simp)
       | [s], h => exact ⟨s, rfl, by simpa using h⟩
       | _ :: _ :: _, h => exact absurd (congrArg List.length h) (by simp)
      obtain rfl : 1 = nz := R3.out.1.2
      obtain ⟨bq, oq, rfl, hbq, hcc⟩ := R3.out.1.1.2.2.2.2 (by decide)
      have hcp := hcc 0 _ rfl
      have hcq := hcc 1 _ rfl
      obtain ⟨hwp, hwq⟩ := R3.out.2 s (List.mem_singleton.2 rfl)
      rw [show s.p.2.2.2 = [sA, sP, sA] from congrArg Prod.fst hsd] at hwp
      rw [show s.q.2.2.2 = [sA, sB, sA] from congrArg Prod.snd hsd] at hwq
      refine wp_mono (region7_c (Ax := Ax) (nx := nx) (cx := cx) (Ay := Ay) (ny := ny) (cy := cy) (bq := bq) (oq := oq) (cz := cz) (x := x) (y := y) (z := z) (s := s) ⟨rfl, rfl, rfl, rfl, rfl, rfl, rfl, rfl, rfl, rfl, rfl, rfl⟩ ⟨KX.out, KY.out, KZ.out, R1.out, R2.out, hbq, hcp, hcq, hwp, hwq⟩ rfl) ?_
      intro e a' W' hq
      cases e <;> first | exact hq.elim | skip
      obtain ⟨hd, ht, hb⟩ := hq
      have HBF := hI (HB0.out.trans (hb.mono HB0.out.size))
      go_wp2
      exact bodyPost_ret (results_tmp Tryz.results42 _ _ _) hd ⟨by rw [Array.getD_eq_getD_getElem?, ht]; rfl, HBF.out⟩
end Go.Proofs.YtlgliddhideflaaGreatDoor

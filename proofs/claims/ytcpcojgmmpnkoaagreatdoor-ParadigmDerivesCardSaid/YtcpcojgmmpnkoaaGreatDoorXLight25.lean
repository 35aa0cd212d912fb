/-
  ablautlaw25.Light over a history of laws alone: what is reckoned does not matter, it comes to an end.
-/
import Derived.Test.YtcpcojgmmpnkoaaGreatDoorG18
set_option linter.all false
set_option maxRecDepth 100000
set_option maxHeartbeats 4000000
namespace Go.Proofs.YtcpcojgmmpnkoaaGreatDoor
open Go.RowKit Go.Shelf
theorem light25_c (A : Option Addr) (n c : Nat) (xs : List LawR) (w : World) (hx : IsLaws w A n c xs) :
  Calls Tryz.prog 63 #[.agg #[.slice none 0 0, .slice A n c, .slice none 0 0]] w (RetBool w) := by
 have hm := hx.max
 have HX := hI hx; clear hx
 have b6 : Below w.heap.size w (w.alloc (.cells #[.slice none 0 0, .slice A n c, .slice none 0 0] 98)) := bel
 have b7 : (w.alloc (.cells #[.slice none 0 0, .slice A n c, .slice none 0 0] 98)).heap[w.heap.size]? = some (.cells #[.slice none 0 0, .slice A n c, .slice none 0 0] 98 (0, 0)) := hpt
 by_cases h70 : 70 < n
 ·have b4 : (70 : Int) < (n : Int) := by omega
  go_enter Tryz.func63, Tryz.ntmps63
  go_wp2
  go_ret
  exact ⟨⟨_, rfl⟩, b6⟩
 have b4 : ¬ (70 : Int) < (n : Int) := by omega
 go_enter Tryz.func63, Tryz.ntmps63
 go_wp2_with fail
 generalize (w.alloc (.cells #[.slice none 0 0, .slice A n c, .slice none 0 0] 98)) = V0 at *
 obtain ⟨bh, d1⟩ : ∃ bh, bh = w.heap.size := ⟨_, rfl⟩
 rw [← d1] at b7 ⊢
 clear d1
 have d4 := hI b7
 have d6 := hI b6
 clear b7 b6
 go_loopw [3] (fun vi wr => vi = .int .i64 0 ∧ Below V0.heap.size V0 wr) (fun _ _ => 0)
 case atStart => exact ⟨rfl, Below.refl _ _⟩
 case round =>
  obtain ⟨rfl, hB⟩ := hrel
  have a8 := hI ((hB.block bh (lt_of_block d4.out)).trans d4.out)
  have k2 : wr.cell? ⟨bh, 2, none⟩ = some (.slice none 0 0) := cell_at_heap a8.out rfl
  have hz : ¬ (0 : Int) < 0 := by omega
  obtain ⟨w1, d5⟩ : ∃ w1, w1 = wr := ⟨_, rfl⟩
  have b5 := hI (d6.out.trans (hB.mono d6.out.size))
  rw [← d5] at a8 b5
  clear hB
  go_wp2_with fail
  clear k2
  go_loopw [4] (fun vi wr => ∃ i : Nat, vi = .int .i64 i ∧ i ≤ n ∧ Below w1.heap.size w1 wr) (fun vi _ => n - (intOf vi).toNat)
  case atStart => exact ⟨0, rfl, Nat.zero_le _, by rw [d5]; exact Below.refl _ _⟩
  case round =>
   obtain ⟨i, rfl, hi, hB⟩ := hrel
   have b0 := hI ((hB.block bh (lt_of_block a8.out)).trans a8.out)
   have k1 : wr.cell? ⟨bh, 1, none⟩ = some (.slice A n c) := cell_at_heap b0.out rfl
   have a6 := b5.out.trans (hB.mono b5.out.size)
   by_cases hlt : i < n
   ·have f5 : (i : Int) < (n : Int) := by omega
    obtain ⟨s, hs⟩ := HX.out.get hlt
    obtain ⟨b, off, rfl, g4, d2⟩ := (HX.out.below a6 rr).at_ hs
    have f9 := hI d2; clear d2
    have g6 : n ≤ c := hm.1
    have f2 : IntKind.i64.wrap ((i : Int) + 1) = ((i + 1 : Nat) : Int) := by rw [IntWalk.i64_in _ (by omega)]; omega
    have g5 : (i : Int) + 1 ≤ (c : Int) := by omega
    have g0 : ¬ c = i := by omega
    have b9 : IsLaws w (some ⟨b, off + i * 18, none⟩) 1 (c - i) [s] := by
     have h1 := (HX.out.drop (k := i) (by omega))
     rw [if_neg g0] at h1
     have h2 := h1.take (k := 1) (by omega)
     have h3 : (xs.drop i).take 1 = [s] := by
      obtain ⟨hk, d9⟩ := List.getElem?_eq_some_iff.1 hs
      rw [List.drop_eq_getElem_cons hk, d9]; rfl
     rw [h3] at h2
     simpa [addr_add] using h2
    have f6 := hI b9; clear b9
    have f0 := hI (HX.out.2 s (List.mem_of_getElem? hs)); clear hs
    go_wp2_with (first | (refine load_lawM rfl (.tmp 46) rfl b (off + i * 18) s rfl f9.out ?_) | (refine store_law rfl (.tmp 5) (.tmp 47) rfl wr.heap.size s.l s.a rfl rfl (t := 34) (heap_new_at rfl) rfl ?hs))
    case hs =>
     intro W g1 g2 g3
     have a5 : Below wr.heap.size wr W := ((Below.refl wr.heap.size wr).alloc rr _).trans (g2.to_below (fun k hk => by omega) (by simp))
     obtain ⟨bl, a0⟩ : ∃ bl, bl = wr.heap.size := ⟨_, rfl⟩
     rw [← a0] at g1 ⊢
     have f1 : wr.heap.size ≤ bl := Nat.le_of_eq a0.symm
     clear a0 g2 g3
     have b3 := hI (a6.trans (a5.mono a6.size))
     have b8 := hI (hB.trans (a5.mono hB.size))
     have f4 := hI ((a5.block bh (lt_of_block b0.out)).trans b0.out)
     have HG := hI g1
     have k3 : W.cell? ⟨bh, 1, none⟩ = some (.slice (some ⟨b, off, none⟩) n c) := cell_at_heap f4.out rfl
     clear g1 a5 k1
     go_wp2_with fail
     refine (reps_c (some ⟨b, off + i * 18, none⟩) 1 (c - i) [s] W (f6.out.below b3.out rr)).mono ?_
     rintro e w4 ⟨⟨m, rfl⟩, a7⟩
     have a4 := hI ((a7.block bl (lt_of_block HG.out)).trans HG.out)
     have a1 := hI (b3.out.trans (a7.mono b3.out.size))
     have d3 := hI (b8.out.trans (a7.mono b8.out.size))
     clear a7 k3
     by_cases q1 : 4 < m
     ·go_wp2
      go_ret
      exact ⟨⟨_, rfl⟩, a1.out⟩
     obtain ⟨_, d7, d8, _⟩ := law_reads a4.out
     by_cases q2 : 20 < s.l.ifs.length
     ·have q2' : (20 : Int) < (s.l.ifs.length : Int) := by omega
      go_wp2
      go_ret
      exact ⟨⟨_, rfl⟩, a1.out⟩
     have q2' : ¬ (20 : Int) < (s.l.ifs.length : Int) := by omega
     by_cases q3 : 20 < s.l.outs.length
     ·have q3' : (20 : Int) < (s.l.outs.length : Int) := by omega
      go_wp2
      go_ret
      exact ⟨⟨_, rfl⟩, a1.out⟩
     have q3' : ¬ (20 : Int) < (s.l.outs.length : Int) := by omega
     have hL := law_left a4.out
     have l0 := hL 0 _ rfl; have l1 := hL 1 _ rfl; have l2 := hL 2 _ rfl; have l3 := hL 3 _ rfl; have l4 := hL 4 _ rfl; have l5 := hL 5 _ rfl; have l6 := hL 6 _ rfl
     clear hL
     have a3 := hI (f0.out.below a1.out rr)
     go_wp2_with fail
     refine (size_c s.l.left.1 s.l.left.2 w4 _ _ _ a3.out.1).mono ?_
     rintro e w5 ⟨⟨m5, rfl⟩, a2⟩
     have f7 := hI ((a2.block bl (lt_of_block a4.out)).trans a4.out)
     have b1 := hI (a1.out.trans (a2.mono a1.out.size))
     have d0 := hI (d3.out.trans (a2.mono d3.out.size))
     have a9 := hI (a3.out.2.1.below a2 rr)
     clear a2 l0 l1 l2 l3 l4 l5 l6 d7 d8
     by_cases q4 : 41 < m5
     ·go_wp2
      go_ret
      exact ⟨⟨_, rfl⟩, b1.out⟩
     have hR := law_right f7.out
     have l0 := hR 0 _ rfl; have l1 := hR 1 _ rfl; have l2 := hR 2 _ rfl; have l3 := hR 3 _ rfl; have l4 := hR 4 _ rfl; have l5 := hR 5 _ rfl; have l6 := hR 6 _ rfl
     clear hR
     go_wp2_with fail
     refine (size_c s.l.right.1 s.l.right.2 w5 _ _ _ a9.out).mono ?_
     rintro e w6 ⟨⟨m6, rfl⟩, b2⟩
     have f3 := b1.out.trans (b2.mono b1.out.size)
     have f8 := d0.out.trans (b2.mono d0.out.size)
     clear b2 l0 l1 l2 l3 l4 l5 l6
     by_cases q5 : 41 < m6
     ·go_wp2
      go_ret
      exact ⟨⟨_, rfl⟩, f3⟩
     go_wp2
     go_roundw
     case rel => exact ⟨i + 1, by go_num, by omega, f8⟩
     case measure => simp [intOf]; omega
   ·have f5 : ¬ (i : Int) < (n : Int) := by omega
    go_wp2
    go_ret
    exact ⟨⟨_, rfl⟩, a6⟩
end Go.Proofs.YtcpcojgmmpnkoaaGreatDoor

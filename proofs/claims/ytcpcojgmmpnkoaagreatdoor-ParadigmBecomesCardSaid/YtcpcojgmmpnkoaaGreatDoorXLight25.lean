/-
  ablautlaw25.Light over a history of laws alone: what is reckoned does not matter, it comes to an end.
-/
import Derived.Test.YtcpcojgmmpnkoaaGreatDoorG18
set_option linter.all false
set_option maxRecDepth 100000
set_option maxHeartbeats 4000000
namespace Go.Proofs.YtcpcojgmmpnkoaaGreatDoor
open Go.RowKit Go.Shelf
theorem light25_c (A : Option Addr) (n c : Nat) (xs : List LawR) (w : World) (hx : IsLaws w A n c xs) :
  Calls Tryz.prog 63 #[.agg #[.slice none 0 0, .slice A n c, .slice none 0 0]] w (RetBool w) := by
 have hm := hx.max
 have HX := hI hx; clear hx
 have b6 : Below w.heap.size w (w.alloc (.cells #[.slice none 0 0, .slice A n c, .slice none 0 0] 98)) := bel
 have b5 : (w.alloc (.cells #[.slice none 0 0, .slice A n c, .slice none 0 0] 98)).heap[w.heap.size]? = some (.cells #[.slice none 0 0, .slice A n c, .slice none 0 0] 98 (0, 0)) := hpt
 by_cases h70 : 70 < n
 ·have b0 : (70 : Int) < (n : Int) := by omega
  go_enter Tryz.func63, Tryz.ntmps63
  go_wp2
  go_ret
  exact ⟨⟨_, rfl⟩, b6⟩
 have b0 : ¬ (70 : Int) < (n : Int) := by omega
 go_enter Tryz.func63, Tryz.ntmps63
 go_wp2_with fail
 generalize (w.alloc (.cells #[.slice none 0 0, .slice A n c, .slice none 0 0] 98)) = V0 at *
 obtain ⟨bh, d2⟩ : ∃ bh, bh = w.heap.size := ⟨_, rfl⟩
 rw [← d2] at b5 ⊢
 clear d2
 have b9 := hI b5
 have d6 := hI b6
 clear b5 b6
 go_loopw [3] (fun vi wr => vi = .int .i64 0 ∧ Below V0.heap.size V0 wr) (fun _ _ => 0)
 case atStart => exact ⟨rfl, Below.refl _ _⟩
 case round =>
  obtain ⟨rfl, hB⟩ := hrel
  have a5 := hI ((hB.block bh (lt_of_block b9.out)).trans b9.out)
  have k2 : wr.cell? ⟨bh, 2, none⟩ = some (.slice none 0 0) := cell_at_heap a5.out rfl
  have hz : ¬ (0 : Int) < 0 := by omega
  obtain ⟨w1, d0⟩ : ∃ w1, w1 = wr := ⟨_, rfl⟩
  have b2 := hI (d6.out.trans (hB.mono d6.out.size))
  rw [← d0] at a5 b2
  clear hB
  go_wp2_with fail
  clear k2
  go_loopw [4] (fun vi wr => ∃ i : Nat, vi = .int .i64 i ∧ i ≤ n ∧ Below w1.heap.size w1 wr) (fun vi _ => n - (intOf vi).toNat)
  case atStart => exact ⟨0, rfl, Nat.zero_le _, by rw [d0]; exact Below.refl _ _⟩
  case round =>
   obtain ⟨i, rfl, hi, hB⟩ := hrel
   have b4 := hI ((hB.block bh (lt_of_block a5.out)).trans a5.out)
   have k1 : wr.cell? ⟨bh, 1, none⟩ = some (.slice A n c) := cell_at_heap b4.out rfl
   have a7 := b2.out.trans (hB.mono b2.out.size)
   by_cases hlt : i < n
   ·have f0 : (i : Int) < (n : Int) := by omega
    obtain ⟨s, hs⟩ := HX.out.get hlt
    obtain ⟨b, off, rfl, g6, d1⟩ := (HX.out.below a7 rr).at_ hs
    have f9 := hI d1; clear d1
    have g5 : n ≤ c := hm.1
    have f2 : IntKind.i64.wrap ((i : Int) + 1) = ((i + 1 : Nat) : Int) := by rw [IntWalk.i64_in _ (by omega)]; omega
    have g4 : (i : Int) + 1 ≤ (c : Int) := by omega
    have f5 : ¬ c = i := by omega
    have d4 : IsLaws w (some ⟨b, off + i * 18, none⟩) 1 (c - i) [s] := by
     have h1 := (HX.out.drop (k := i) (by omega))
     rw [if_neg f5] at h1
     have h2 := h1.take (k := 1) (by omega)
     have h3 : (xs.drop i).take 1 = [s] := by
      obtain ⟨hk, f6⟩ := List.getElem?_eq_some_iff.1 hs
      rw [List.drop_eq_getElem_cons hk, f6]; rfl
     rw [h3] at h2
     simpa [addr_add] using h2
    have f8 := hI d4; clear d4
    have d7 := hI (HX.out.2 s (List.mem_of_getElem? hs)); clear hs
    go_wp2_with (first | (refine load_lawM rfl (.tmp 46) rfl b (off + i * 18) s rfl f9.out ?_) | (refine store_law rfl (.tmp 5) (.tmp 47) rfl wr.heap.size s.l s.a rfl rfl (t := 34) (heap_new_at rfl) rfl ?hs))
    case hs =>
     intro W g1 g2 g3
     have a4 : Below wr.heap.size wr W := ((Below.refl wr.heap.size wr).alloc rr _).trans (g2.to_below (fun k hk => by omega) (by simp))
     obtain ⟨bl, a0⟩ : ∃ bl, bl = wr.heap.size := ⟨_, rfl⟩
     rw [← a0] at g1 ⊢
     have f1 : wr.heap.size ≤ bl := Nat.le_of_eq a0.symm
     clear a0 g2 g3
     have a9 := hI (a7.trans (a4.mono a7.size))
     have d5 := hI (hB.trans (a4.mono hB.size))
     have f7 := hI ((a4.block bh (lt_of_block b4.out)).trans b4.out)
     have HG := hI g1
     have k3 : W.cell? ⟨bh, 1, none⟩ = some (.slice (some ⟨b, off, none⟩) n c) := cell_at_heap f7.out rfl
     clear g1 a4 k1
     go_wp2_with fail
     refine (reps_c (some ⟨b, off + i * 18, none⟩) 1 (c - i) [s] W (f8.out.below a9.out rr)).mono ?_
     rintro e w4 ⟨⟨m, rfl⟩, a8⟩
     have a6 := hI ((a8.block bl (lt_of_block HG.out)).trans HG.out)
     have a1 := hI (a9.out.trans (a8.mono a9.out.size))
     have b8 := hI (d5.out.trans (a8.mono d5.out.size))
     clear a8 k3
     by_cases q1 : 4 < m
     ·go_wp2
      go_ret
      exact ⟨⟨_, rfl⟩, a1.out⟩
     obtain ⟨_, d9, g0, _⟩ := law_reads a6.out
     by_cases q2 : 20 < s.l.ifs.length
     ·have q2' : (20 : Int) < (s.l.ifs.length : Int) := by omega
      go_wp2
      go_ret
      exact ⟨⟨_, rfl⟩, a1.out⟩
     have q2' : ¬ (20 : Int) < (s.l.ifs.length : Int) := by omega
     by_cases q3 : 20 < s.l.outs.length
     ·have q3' : (20 : Int) < (s.l.outs.length : Int) := by omega
      go_wp2
      go_ret
      exact ⟨⟨_, rfl⟩, a1.out⟩
     have q3' : ¬ (20 : Int) < (s.l.outs.length : Int) := by omega
     have hL := law_left a6.out
     have l0 := hL 0 _ rfl; have l1 := hL 1 _ rfl; have l2 := hL 2 _ rfl; have l3 := hL 3 _ rfl; have l4 := hL 4 _ rfl; have l5 := hL 5 _ rfl; have l6 := hL 6 _ rfl
     clear hL
     have a2 := hI (d7.out.below a1.out rr)
     go_wp2_with fail
     refine (size_c s.l.left.1 s.l.left.2 w4 _ _ _ a2.out.1).mono ?_
     rintro e w5 ⟨⟨m5, rfl⟩, a3⟩
     have f3 := hI ((a3.block bl (lt_of_block a6.out)).trans a6.out)
     have b7 := hI (a1.out.trans (a3.mono a1.out.size))
     have d3 := hI (b8.out.trans (a3.mono b8.out.size))
     have b1 := hI (a2.out.2.1.below a3 rr)
     clear a3 l0 l1 l2 l3 l4 l5 l6 d9 g0
     by_cases q4 : 41 < m5
     ·go_wp2
      go_ret
      exact ⟨⟨_, rfl⟩, b7.out⟩
     have hR := law_right f3.out
     have l0 := hR 0 _ rfl; have l1 := hR 1 _ rfl; have l2 := hR 2 _ rfl; have l3 := hR 3 _ rfl; have l4 := hR 4 _ rfl; have l5 := hR 5 _ rfl; have l6 := hR 6 _ rfl
     clear hR
     go_wp2_with fail
     refine (size_c s.l.right.1 s.l.right.2 w5 _ _ _ b1.out).mono ?_
     rintro e w6 ⟨⟨m6, rfl⟩, b3⟩
     have f4 := b7.out.trans (b3.mono b7.out.size)
     have d8 := d3.out.trans (b3.mono d3.out.size)
     clear b3 l0 l1 l2 l3 l4 l5 l6
     by_cases q5 : 41 < m6
     ·go_wp2
      go_ret
      exact ⟨⟨_, rfl⟩, f4⟩
     go_wp2
     go_roundw
     case rel => exact ⟨i + 1, by go_num, by omega, d8⟩
     case measure => simp [intOf]; omega
   ·have f0 : ¬ (i : Int) < (n : Int) := by omega
    go_wp2
    go_ret
    exact ⟨⟨_, rfl⟩, a7⟩
end Go.Proofs.YtcpcojgmmpnkoaaGreatDoor

/-
  ablautref06.Size and ablautlaw10.Reps return; nothing old is written.
-/
import Derived.Test.YtlgliddhideflaaGreatDoorG13
set_option linter.all false
set_option maxRecDepth 100000
set_option maxHeartbeats 4000000
namespace Go.Proofs.YtlgliddhideflaaGreatDoor
open Go.RowKit Go.Shelf
def RetSome (w : World) (e : Ending) (w' : World) : Prop := (∃ m : Int, e = .returned (.int .i64 m)) ∧ Below w.heap.size w w'
def RetTrue (w : World) (e : Ending) (w' : World) : Prop := e = .returned (.bool true) ∧ Below w.heap.size w w'
def CntOK (k : Nd) (ch : Fo) : Prop := ∀ (w : World) (A : Option Addr) (n c : Nat) (m : Int), FSl w A n c ch → Calls Tryz.prog 160 #[patV k A n c, .int .i64 m] w (RetSome w)
theorem count_step (k : Nd) (ch : Fo) (ih : ∀ j k' ch', ch.get j = some (k', ch') → CntOK k' ch') : CntOK k ch := by
 intro w A n c m0 hs
 have hn : n ≤ 9223372036854775807 := by have h1 := hs.1.2.1; have h2 := hs.1.2.2.1; unfold maxLen at h2; omega
 have HI := hI ih; clear ih
 have HS := hI hs; clear hs
 obtain ⟨kind, isp, ism, neg, lo, hi⟩ := k
 go_enter Tryz.func160, Tryz.ntmps160
 go_wp2
 go_loopw [5, 6] (fun nv i wr => ∃ (j : Nat) (m : Int), i = .int .i64 j ∧ nv = .int .i64 m ∧ j ≤ n ∧ Hid (wr.heap[w.heap.size]? = some (.cells #[.int .i64 kind, .int .u32 isp, .int .u32 ism, .bool neg, .int .i64 lo, .int .i64 hi, .slice A n c] 27 (0, 0))) ∧ Below w.heap.size w wr) (fun _ i _ => n - (intOf i).toNat)
 case atStart => exact ⟨0, _, rfl, rfl, Nat.zero_le _, hpt, bel⟩
 case round =>
  obtain ⟨j, m, rfl, rfl, hj, hb, hB⟩ := hrel
  have hBs := hB.size
  have hb6 := cell_at_heap (j := 6) hb.out rfl
  by_cases hlt : j < n
  ·by_cases hm : m ≤ 40
   ·obtain ⟨⟨k', ch'⟩, hg⟩ := ch.get_lt j (by have := HS.out.1.1; omega)
    obtain ⟨b, off, A', n', c', rfl, hbl, ⟨h0, h1, h2, h3, h4, h5, h6⟩, ⟨rfl, hn'⟩, hch', _⟩ := (HS.out.below hB rr).2.at_ ch _ 0 j k' ch' hg
    have HG := hI hg; clear hg
    have HCH := hI hch'; clear hch'
    simp only [Nat.zero_add] at h0 h1 h2 h3 h4 h5 h6
    go_wp2_with fail
    refine (HI.out j k' ch' HG.out wr A' _ c' m ⟨⟨rfl, hn'⟩, HCH.out⟩).mono ?_
    rintro e w1 ⟨⟨m1, rfl⟩, hb1⟩
    have hbx := hI ((hb1.block w.heap.size (lt_of_block hb.out)).trans hb.out)
    have hB1 := hB.trans (hb1.mono hBs)
    clear hb1 h0 h1 h2 h3 h4 h5 h6 hb6
    go_wp2
    go_roundw
    case rel => exact ⟨j + 1, m1, by go_num, rfl, by omega, hbx, hB1⟩
    case measure => simp [intOf]; omega
   ·go_wp2
    go_ret
    exact ⟨⟨_, rfl⟩, hB⟩
  ·obtain rfl : j = n := by omega
   go_wp2
   go_ret
   exact ⟨⟨_, rfl⟩, hB⟩
theorem count_all : ∀ (f : Fo) (j : Nat) (k : Nd) (ch : Fo), f.get j = some (k, ch) → CntOK k ch
 | .node k0 ch0 nx, 0, k, ch, hg => by
  obtain ⟨rfl, rfl⟩ : k0 = k ∧ ch0 = ch := by simpa [Fo.get] using hg
  exact count_step _ _ (count_all ch0)
 | .node k0 ch0 nx, j + 1, k, ch, hg => count_all nx j k ch (by simpa [Fo.get] using hg)
theorem count_c (k : Nd) (ch : Fo) : CntOK k ch := count_step k ch (count_all ch)
theorem size_c (k : Nd) (ch : Fo) (w : World) (A : Option Addr) (n c : Nat) (hs : FSl w A n c ch) : Calls Tryz.prog 111 #[patV k A n c] w (RetSome w) := by
 obtain ⟨kind, isp, ism, neg, lo, hi⟩ := k
 have HS := hI hs; clear hs
 go_enter Tryz.func111, Tryz.ntmps111
 go_wp2_with fail
 refine (count_c ⟨kind, isp, ism, neg, lo, hi⟩ ch _ A n c 0 (HS.out.below (B := w.heap.size) bel rr)).mono ?_
 rintro e w1 ⟨⟨m1, rfl⟩, hb1⟩
 go_wp2
 go_ret
 exact ⟨⟨_, rfl⟩, Below.step (by assumption) (by simp) bel⟩
def RpOK (k : Nd) (ch : Fo) : Prop := ∀ (w : World) (A : Option Addr) (n c : Nat), FSl w A n c ch → Calls Tryz.prog 173 #[patV k A n c] w (RetSome w)
theorem repeats_step (k : Nd) (ch : Fo) (ih : ∀ j k' ch', ch.get j = some (k', ch') → RpOK k' ch') : RpOK k ch := by
 intro w A n c hs
 have hn : n ≤ 9223372036854775807 := by have h1 := hs.1.2.1; have h2 := hs.1.2.2.1; unfold maxLen at h2; omega
 have HI := hI ih; clear ih
 have HS := hI hs; clear hs
 obtain ⟨kind, isp, ism, neg, lo, hi⟩ := k
 cases hk5 : (kind == 5)
 all_goals
  go_enter Tryz.func173, Tryz.ntmps173
  go_wp2
  go_loopw [3, 4] (fun nv i wr => ∃ (j : Nat) (m : Int), i = .int .i64 j ∧ nv = .int .i64 m ∧ j ≤ n ∧ Hid (wr.heap[w.heap.size]? = some (.cells #[.int .i64 kind, .int .u32 isp, .int .u32 ism, .bool neg, .int .i64 lo, .int .i64 hi, .slice A n c] 27 (0, 0))) ∧ Below w.heap.size w wr) (fun _ i _ => n - (intOf i).toNat)
  case atStart => exact ⟨0, _, rfl, rfl, Nat.zero_le _, hpt, bel⟩
  case round =>
   obtain ⟨j, m, rfl, rfl, hj, hb, hB⟩ := hrel
   have hBs := hB.size
   have hb6 := cell_at_heap (j := 6) hb.out rfl
   by_cases hlt : j < n
   ·obtain ⟨⟨k', ch'⟩, hg⟩ := ch.get_lt j (by have := HS.out.1.1; omega)
    obtain ⟨b, off, A', n', c', rfl, hbl, ⟨h0, h1, h2, h3, h4, h5, h6⟩, ⟨rfl, hn'⟩, hch', _⟩ := (HS.out.below hB rr).2.at_ ch _ 0 j k' ch' hg
    have HG := hI hg; clear hg
    have HCH := hI hch'; clear hch'
    simp only [Nat.zero_add] at h0 h1 h2 h3 h4 h5 h6
    go_wp2_with fail
    refine (HI.out j k' ch' HG.out wr A' _ c' ⟨⟨rfl, hn'⟩, HCH.out⟩).mono ?_
    rintro e w1 ⟨⟨m1, rfl⟩, hb1⟩
    have hbx := hI ((hb1.block w.heap.size (lt_of_block hb.out)).trans hb.out)
    have hB1 := hB.trans (hb1.mono hBs)
    clear hb1 h0 h1 h2 h3 h4 h5 h6 hb6
    go_wp2
    go_roundw
    case rel => first | exact ⟨j + 1, _, by go_num, rfl, by omega, hbx, hB1⟩ | ((repeat apply Exists.intro); exact ⟨⟨j + 1, _, by go_num, rfl, by omega, hbx, hB1⟩, rfl⟩)
    case measure => simp [intOf]; omega
   ·obtain rfl : j = n := by omega
    go_wp2
    go_ret
    exact ⟨⟨_, rfl⟩, hB⟩
theorem repeats_all : ∀ (f : Fo) (j : Nat) (k : Nd) (ch : Fo), f.get j = some (k, ch) → RpOK k ch
 | .node k0 ch0 nx, 0, k, ch, hg => by
  obtain ⟨rfl, rfl⟩ : k0 = k ∧ ch0 = ch := by simpa [Fo.get] using hg
  exact repeats_step _ _ (repeats_all ch0)
 | .node k0 ch0 nx, j + 1, k, ch, hg => repeats_all nx j k ch (by simpa [Fo.get] using hg)
theorem repeats_c (k : Nd) (ch : Fo) : RpOK k ch := repeats_step k ch (repeats_all ch)
theorem laws_left {w : World} {b o : Nat} {x : LawR} (h : w.rangeAt b o x.cells) : w.rangeAt b (o + 1) (patCells x.l.left.1 x.a.Al x.l.left.2.len x.a.cl) := fun j v hv => by
 have := h (1 + j) v (by
  have e : x.cells = .string x.l.name :: (patCells x.l.left.1 x.a.Al x.l.left.2.len x.a.cl ++ (patCells x.l.right.1 x.a.Ar x.l.right.2.len x.a.cr ++ [.slice x.a.Ai x.l.ifs.length x.a.ci, .slice x.a.Ao x.l.outs.length x.a.co, .int .i64 x.l.mode])) := rfl
  rw [e, Nat.add_comm, List.getElem?_cons_succ, List.getElem?_append_left (List.getElem?_eq_some_iff.1 hv).1]
  exact hv)
 rwa [show o + 1 + j = o + (1 + j) by omega]
theorem laws_right {w : World} {b o : Nat} {x : LawR} (h : w.rangeAt b o x.cells) : w.rangeAt b (o + 8) (patCells x.l.right.1 x.a.Ar x.l.right.2.len x.a.cr) := fun j v hv => by
 have := h (8 + j) v (by
  have e : x.cells = (.string x.l.name :: patCells x.l.left.1 x.a.Al x.l.left.2.len x.a.cl) ++ (patCells x.l.right.1 x.a.Ar x.l.right.2.len x.a.cr ++ [.slice x.a.Ai x.l.ifs.length x.a.ci, .slice x.a.Ao x.l.outs.length x.a.co, .int .i64 x.l.mode]) := rfl
  rw [e, List.getElem?_append_right (by simp [patCells]), show 8 + j - (Value.string x.l.name :: patCells x.l.left.1 x.a.Al x.l.left.2.len x.a.cl).length = j by simp [patCells], List.getElem?_append_left (List.getElem?_eq_some_iff.1 hv).1]
  exact hv)
 rwa [show o + 8 + j = o + (8 + j) by omega]
theorem yields_pat {ops : Array Oper} {S : World → Prop} {op : Oper} {ac : Act} (hw : Region.wanted op (yielded ops ac.tmps) = true) (x : Operand) (ho : op.op = .load 27 x)
  (b o : Nat) (k : Nd) (A : Option Addr) (n c : Nat) (hx : ac.eval x = .pointer (some ⟨b, o, none⟩)) (hS : ∀ w, S w → w.rangeAt b o (patCells k A n c)) : YieldsIf Tryz.prog ops S op (patV k A n c) ac :=
 .inl ⟨hw, fun w hw' => by
  unfold execOp
  simp only [ho, hx, Instr.loadAt, Instr.sureAddr, Sem.run_bind, Sem.run_pure, Result.andThen_ok, run_load_pat (hS w hw')]⟩
theorem reps_c (A : Option Addr) (n c : Nat) (xs : List LawR) (w : World) (hx : IsLaws w A n c xs) : Calls Tryz.prog 131 #[.slice A n c] w (RetSome w) := by
 have hm := hx.max
 have HX := hI hx; clear hx
 go_enter Tryz.func131, Tryz.ntmps131
 go_wp2
 go_loopw [3, 4] (fun nv i wr => ∃ (j : Nat) (m : Int), i = .int .i64 j ∧ nv = .int .i64 m ∧ j ≤ n ∧ Below w.heap.size w wr) (fun _ i _ => n - (intOf i).toNat)
 case atStart => exact ⟨0, 0, rfl, rfl, Nat.zero_le _, Below.refl _ _⟩
 case round =>
  obtain ⟨j, m, rfl, rfl, hj, hB⟩ := hrel
  obtain ⟨wo, rfl⟩ : ∃ wo : World, wo = wr := ⟨_, rfl⟩
  have hBs := hB.size
  by_cases hlt : j < n
  ·by_cases hm60 : j ≤ 300
   ·obtain ⟨s, hs⟩ := HX.out.get hlt
    obtain ⟨b, off, rfl, hbl, hrg⟩ := (HX.out.below hB rr).at_ hs
    have hla := (HX.out.below hB rr).2 s (List.mem_of_getElem? hs)
    have HRG := hI hrg; clear hrg
    have HLA := hI hla; clear hla hs
    have hL := laws_left HRG.out
    have hR := laws_right HRG.out
    have hj' : (j : Int) < (n : Int) := by omega
    go_wp2
    refine plain_regionU 10 (fun W' => W'.rangeAt b (off + j * 18 + 1) (patCells s.l.left.1 s.a.Al s.l.left.2.len s.a.cl) ∧ W'.rangeAt b (off + j * 18 + 8) (patCells s.l.right.1 s.a.Ar s.l.right.2.len s.a.cr)) (by kernel_rfl) ⟨hL, hR⟩ (fun hHeld => ?_)
    (refine' anyU_take (i := 0) 2 (v := _) rfl (by kernel_rfl) (by kernel_rfl) (by kernel_rfl) (by kernel_rfl) (fun _ _ _ h => h) (Or.inl ⟨by rfl, fun w' hSw => by (try dsimp only at hSw); go_split_ands; go_simp; (try with_reducible rfl)⟩) (by assumption) ?_; (try simp only [Act.put, nY, nX])); (refine' anyU_take (i := 1) 2 (v := _) rfl (by kernel_rfl) (by kernel_rfl) (by kernel_rfl) (by kernel_rfl) (fun _ _ _ h => h) (Or.inl ⟨by rfl, fun w' hSw => by (try dsimp only at hSw); go_split_ands; go_simp; (try with_reducible rfl)⟩) (by assumption) ?_; (try simp only [Act.put, nY, nX])); (refine' anyU_take (i := 2) 3 (v := _) rfl (by kernel_rfl) (by kernel_rfl) (by kernel_rfl) (by kernel_rfl) (fun _ _ _ h => h) (Or.inl ⟨by rfl, fun w' hSw => by (try dsimp only at hSw); go_split_ands; go_simp; (try with_reducible rfl)⟩) (by assumption) ?_; (try simp only [Act.put, nY, nX])); (refine' anyU_take (i := 3) 4 (v := _) rfl (by kernel_rfl) (by kernel_rfl) (by kernel_rfl) (by kernel_rfl) (fun _ _ _ h => h) (Or.inl ⟨by rfl, fun w' hSw => by (try dsimp only at hSw); go_split_ands; go_simp; (try with_reducible rfl)⟩) (by assumption) ?_; (try simp only [Act.put, nY, nX]))
    (refine' anyU_take (i := 4) 10 (v := patV s.l.left.1 s.a.Al s.l.left.2.len s.a.cl) rfl (by kernel_rfl) (by kernel_rfl) (by kernel_rfl) (by kernel_rfl) (fun _ _ _ h => h) (yields_pat (by rfl) (.tmp 21) rfl b (off + j * 18 + 1) _ _ _ _ (by rfl) (fun _ h => h.1)) (by assumption) ?_; (try simp only [Act.put, nY, nX]))
    (refine' anyU_take (i := 5) 7 (v := _) rfl (by kernel_rfl) (by kernel_rfl) (by kernel_rfl) (by kernel_rfl) (fun _ _ _ h => h) (Or.inl ⟨by rfl, fun w' hSw => by (try dsimp only at hSw); go_split_ands; go_simp; (try with_reducible rfl)⟩) (by assumption) ?_; (try simp only [Act.put, nY, nX])); (refine' anyU_take (i := 6) 7 (v := _) rfl (by kernel_rfl) (by kernel_rfl) (by kernel_rfl) (by kernel_rfl) (fun _ _ _ h => h) (Or.inl ⟨by rfl, fun w' hSw => by (try dsimp only at hSw); go_split_ands; go_simp; (try with_reducible rfl)⟩) (by assumption) ?_; (try simp only [Act.put, nY, nX])); (refine' anyU_take (i := 7) 8 (v := _) rfl (by kernel_rfl) (by kernel_rfl) (by kernel_rfl) (by kernel_rfl) (fun _ _ _ h => h) (Or.inl ⟨by rfl, fun w' hSw => by (try dsimp only at hSw); go_split_ands; go_simp; (try with_reducible rfl)⟩) (by assumption) ?_; (try simp only [Act.put, nY, nX])); (refine' anyU_take (i := 8) 9 (v := _) rfl (by kernel_rfl) (by kernel_rfl) (by kernel_rfl) (by kernel_rfl) (fun _ _ _ h => h) (Or.inl ⟨by rfl, fun w' hSw => by (try dsimp only at hSw); go_split_ands; go_simp; (try with_reducible rfl)⟩) (by assumption) ?_; (try simp only [Act.put, nY, nX]))
    (refine' anyU_take (i := 9) 10 (v := patV s.l.right.1 s.a.Ar s.l.right.2.len s.a.cr) rfl (by kernel_rfl) (by kernel_rfl) (by kernel_rfl) (by kernel_rfl) (fun _ _ _ h => h) (yields_pat (by rfl) (.tmp 26) rfl b (off + j * 18 + 8) _ _ _ _ (by rfl) (fun _ h => h.2)) (by assumption) ?_; (try simp only [Act.put, nY, nX]))
    clear hL hR
    refine anyU_two (i := 10) (j := 12) (by kernel_rfl) rfl rfl (fun K' hK' => ?_) (fun K' hK' => ?_)
    case' refine_1 =>
     rw [if_pos (by rfl)]
     go_simp
     refine hK' _ _ ⟨.inl (by kernel_rfl), fun _ => anyU_of_T _ _ _ _ (by kernel_rfl) ?_⟩
     clear hK' K'
     (try simp only [Act.put, nY, nX])
     (refine' anyT_takeF (i := 12) (v := _) rfl (by kernel_rfl) (by kernel_rfl) (by kernel_rfl) (fun _ _ _ h => h) (Or.inl ⟨by rfl, fun w' hSw => by go_simp; (try with_reducible rfl)⟩) ?_; (try simp only [Act.put, nY, nX]))
     (refine anyT_sp 11 rfl (fun K' hK' => ?_); simp only [nY]; go_simp)
     refine hK' _ _ ⟨.inl (by kernel_rfl), fun _ => anyT_done (by kernel_rfl) ?_ _⟩
     clear hK' K' hHeld
    case' refine_2 =>
     rw [if_pos (by rfl)]
     go_simp
     refine hK' _ _ ⟨.inr hHeld, fun _ => ?_⟩
     clear hK' K'
     (try simp only [Act.put, nY, nX])
     (refine anyU_step (i := 10) (by kernel_rfl) rfl (fun K' hK' => ?_); simp only [nY]; go_simp)
     refine hK' _ _ ⟨.inl (by kernel_rfl), fun _ => anyU_of_T _ _ _ _ (by kernel_rfl) ?_⟩
     clear hK' K'
     (try simp only [Act.put, nY, nX])
     (refine anyT_sp 11 rfl (fun K' hK' => ?_); simp only [nY]; go_simp)
     refine hK' _ _ ⟨.inl (by kernel_rfl), fun _ => anyT_done (by kernel_rfl) ?_ _⟩
     clear hK' K' hHeld
    all_goals
     have g0 : (wo.alloc (.cells (patCells s.l.left.1 s.a.Al s.l.left.2.len s.a.cl ++ patCells s.l.right.1 s.a.Ar s.l.right.2.len s.a.cr).toArray 27)).drew.heap[wo.heap.size]? = some (.cells (patCells s.l.left.1 s.a.Al s.l.left.2.len s.a.cl ++ patCells s.l.right.1 s.a.Ar s.l.right.2.len s.a.cr).toArray 27 (0, 0)) := heap_new_at rfl
     have gB : Below wo.heap.size wo (wo.alloc (.cells (patCells s.l.left.1 s.a.Al s.l.left.2.len s.a.cl ++ patCells s.l.right.1 s.a.Ar s.l.right.2.len s.a.cr).toArray 27)).drew := bel
     obtain ⟨W0, hW0⟩ : ∃ W0, (wo.alloc (.cells (patCells s.l.left.1 s.a.Al s.l.left.2.len s.a.cl ++ patCells s.l.right.1 s.a.Ar s.l.right.2.len s.a.cr).toArray 27)).drew = W0 := ⟨_, rfl⟩
     rw [hW0] at g0 gB
     have hW0' := hW0
     simp only [patCells, List.cons_append, List.nil_append] at hW0
     rw [hW0]
     clear hW0 hW0'
     have h1L := HLA.out.1.below gB rr
     have h1R := HLA.out.2.1.below gB rr
     have H1 := hI (And.intro h1L h1R); clear h1L h1R
     have hgB := hB.trans (gB.mono hBs)
     have HGB := hI hgB; clear hgB
     have g0l := lt_of_block g0
     have G0 := hI g0; clear g0 gB
     go_wp2
     obtain ⟨gb, egb⟩ : ∃ gb, gb = wo.heap.size := ⟨_, rfl⟩
     rw [← egb]
     rw [← egb] at G0 g0l
     clear egb
     go_loopw [5, 30] (fun nv i wr => ∃ (q : Nat) (m : Int), i = .int .i64 q ∧ nv = .int .i64 m ∧ q ≤ 2 ∧ Below W0.heap.size W0 wr) (fun _ i _ => 2 - (intOf i).toNat)
     case atStart => exact ⟨0, 0, rfl, rfl, by omega, Below.refl _ _⟩
     case round =>
      obtain ⟨q, m1, rfl, rfl, hq, hBi⟩ := hrel
      have hBis := hBi.size
      have gi := (hBi.block _ g0l).trans G0.out
      by_cases hq2 : q < 2
      ·have hpat : ∃ (k : Nd) (A : Option Addr) (ch : Fo) (c : Nat), wr.rangeAt gb (q * 7) (patCells k A ch.len c) ∧ FSl wr A ch.len c ch := by
        rcases (by omega : q = 0 ∨ q = 1) with rfl | rfl
        ·exact ⟨_, _, _, _, World.rangeAt_of_block gi 0 7, H1.out.1.below hBi rr⟩
        ·exact ⟨_, _, _, _, World.rangeAt_of_block gi 7 7, H1.out.2.below hBi rr⟩
       obtain ⟨k, Ap, ch, cp, hrp, hfp⟩ := hpat
       have HRP := hI hrp; clear hrp
       have HFP := hI hfp; clear hfp gi
       have hq' : (q : Int) < 2 := by omega
       go_wp2_with (refine load_pat rfl (.tmp 32) rfl gb (q * 7) k Ap ch.len cp (by first | rfl | simp) HRP.out ?_)
       have k0 : (wr.alloc (.cells #[.int .i64 k.kind, .int .u32 k.isp, .int .u32 k.ism, .bool k.neg, .int .i64 k.lo, .int .i64 k.hi, .slice Ap ch.len cp] 27)).heap[wr.heap.size]? = some (.cells #[.int .i64 k.kind, .int .u32 k.isp, .int .u32 k.ism, .bool k.neg, .int .i64 k.lo, .int .i64 k.hi, .slice Ap ch.len cp] 27 (0, 0)) := heap_new_at rfl
       have kB : Below wr.heap.size wr (wr.alloc (.cells #[.int .i64 k.kind, .int .u32 k.isp, .int .u32 k.ism, .bool k.neg, .int .i64 k.lo, .int .i64 k.hi, .slice Ap ch.len cp] 27)) := bel
       generalize (wr.alloc (.cells #[.int .i64 k.kind, .int .u32 k.isp, .int .u32 k.ism, .bool k.neg, .int .i64 k.lo, .int .i64 k.hi, .slice Ap ch.len cp] 27)) = V at *
       refine (size_c k ch V Ap ch.len cp (HFP.out.below kB rr)).mono ?_
       rintro e V1 ⟨⟨m2, rfl⟩, hb1⟩
       have k1 := (hb1.block _ (lt_of_block k0)).trans k0
       have hV1 : Below W0.heap.size W0 V1 := hBi.trans ((kB.trans (hb1.mono kB.size)).mono hBis)
       have kB1 := kB.trans (hb1.mono kB.size)
       clear hb1 kB k0
       by_cases hm2 : m2 ≤ 40
       ·have KB1 := hI kB1
        have HV1 := hI hV1
        have hrk : V1.rangeAt wr.heap.size 0 (patCells k Ap ch.len cp) := World.rangeAt_of_block k1 0 7
        have HRK := hI hrk
        clear kB1 hV1 hrk k1
        go_wp2_with (refine load_pat rfl (.tmp 7) rfl wr.heap.size 0 k Ap ch.len cp rfl HRK.out ?_)
        refine (repeats_c k ch V1 Ap ch.len cp (HFP.out.below KB1.out rr)).mono ?_
        rintro e V2 ⟨⟨m3, rfl⟩, hb2⟩
        have hV2 := HV1.out.trans (hb2.mono HV1.out.size)
        clear hb2
        go_wp2
        go_roundw
        case rel => first | exact ⟨q + 1, _, by go_num, rfl, by omega, hV2⟩ | ((repeat apply Exists.intro); exact ⟨⟨q + 1, _, by go_num, rfl, by omega, hV2⟩, rfl⟩)
        case measure => simp [intOf]; omega
       ·go_wp2
        go_roundw
        case rel => first | exact ⟨q + 1, _, by go_num, rfl, by omega, hV1⟩ | ((repeat apply Exists.intro); exact ⟨⟨q + 1, _, by go_num, rfl, by omega, hV1⟩, rfl⟩)
        case measure => simp [intOf]; omega
      ·obtain rfl : q = 2 := by omega
       go_wp2
       exact ⟨⟨j + 1, _, by go_num, rfl, by omega, HGB.out.trans (hBi.mono HGB.out.size)⟩, by simp [intOf]; omega⟩
   ·go_wp2
    go_ret
    exact ⟨⟨_, rfl⟩, hB⟩
  ·obtain rfl : j = n := by omega
   go_wp2
   go_ret
   exact ⟨⟨_, rfl⟩, hB⟩
end Go.Proofs.YtlgliddhideflaaGreatDoor

/-
  derive.Pairs.
-/
import Derived.Test.YtlgliddhideflaaGreatDoorXPairs0
import Derived.Test.YtlgliddhideflaaGreatDoorG16
import Derived.Test.YtlgliddhideflaaGreatDoorG37
set_option linter.all false
set_option maxRecDepth 100000
set_option maxHeartbeats 4000000
namespace Go.Proofs.YtlgliddhideflaaGreatDoor
open Go.RowKit Go.Shelf
attribute [local go_sem] Oper.semAt_some
theorem pair_info : (Tryz.prog.info? 52).map (fun i => (i.zero, i.size, i.bytes)) = some (some (.agg #[.slice none 0 0, .slice none 0 0]), 2, 48) := by kernel_rfl
theorem Cells.shut {B : Nat} {w w' : World} {A : Option Addr} {n c sz : Nat} {vs : List Value} (h : Cells w A n c sz vs) (hs : Shut B w w') : Cells w' A n c sz vs := by
 obtain ⟨h1, h2, h3, h4, h5⟩ := h
 refine ⟨h1, h2, h3, h4, fun hn => ?_⟩
 obtain ⟨b, off, rfl, hlt, hc⟩ := h5 hn
 refine ⟨b, off, rfl, by rw [hs.size]; exact hlt, fun j v hv => ?_⟩
 rcases hs.block b with e | ⟨_, x, e⟩
 ·exact (World.cell?_of_block e).trans (hc j v hv)
 ·have := hc j v hv
  unfold World.cell? at this
  simp_all
theorem IsPairs.shut {B : Nat} {w w' : World} {A : Option Addr} {n c : Nat} {ss : List PairR} (h : IsPairs w A n c ss) (hs : Shut B w w') : IsPairs w' A n c ss :=
 ⟨⟨h.1.1.shut hs, h.1.2⟩, fun s hs' => ⟨(h.2 s hs').1.shut hs, (h.2 s hs').2.shut hs⟩⟩
theorem PairsOK.low {w : World} {B b : Nat} {v u : Value} {ss : List PairR} (h : PairsOK w B v ss) (hb : b < B) : PairsOK (w.setCell ⟨b, 0, none⟩ u) B v ss := by
 have hk : Keep (fun k => k = b) w (w.setCell ⟨b, 0, none⟩ u) := (Keep.refl (fun k => k = b) w).setCell (p := ⟨b, 0, none⟩) rfl _
 have ha : ∀ p, Aside B v w p → Aside B v (w.setCell ⟨b, 0, none⟩ u) p := fun p hp => ⟨hp.1.keep hk fun hn ad had e => by have := (hp.2 ad had).1; omega, hp.2⟩
 exact ⟨own_heap h.own fun k e => hk.block k (h.own.lt k e).2 (by have := (h.own.lt k e).1; omega), fun s hs => ⟨ha _ (h.pq s hs).1, ha _ (h.pq s hs).2⟩, Nat.le_trans h.sz hk.size⟩
theorem pairsGo_step {ls : List LawD} {wss : List (List Snd)} {done : List (List Snd × List Snd)} {k : Nat} {ws x : List Snd} (hk : wss[k]? = some ws) (h0 : (formsM ls ws).1 = 0) (hx : (formsM ls ws).2.getLast? = some x) :
  pairsGo ls (wss.drop k) done = pairsGo ls (wss.drop (k + 1)) (done ++ [(ws, x)]) := by
 obtain ⟨h1, h2⟩ := List.getElem?_eq_some_iff.1 hk
 rw [List.drop_eq_getElem_cons h1, h2, pairsGo, if_neg (by simpa using h0), hx]; rfl
theorem pairsGo_fail {ls : List LawD} {wss : List (List Snd)} {done : List (List Snd × List Snd)} {k : Nat} {ws : List Snd} (hk : wss[k]? = some ws) (h0 : (formsM ls ws).1 ≠ 0) :
  pairsGo ls (wss.drop k) done = ((formsM ls ws).1, []) := by
 obtain ⟨h1, h2⟩ := List.getElem?_eq_some_iff.1 hk
 rw [List.drop_eq_getElem_cons h1, h2, pairsGo, if_pos h0]
theorem pairs_c (A : Option Addr) (n c : Nat) (xs : List LawR) (A' : Option Addr) (n' c' : Nat) (wss : List (List Snd)) (w : World) (hx : IsLaws w A n c xs) (hw : IsWords w A' n' c' wss) (hT : TabOK w) :
  Calls Tryz.prog 24 #[.slice A n c, .slice A' n' c'] w (RetPairs w (pairsM (lawsD xs) wss)) := by
 have hmx := hx.max
 have hmw := hw.max
 have HX := hI hx; clear hx
 have HW := hI hw; clear hw
 have HT := hI hT; clear hT
 refine (callsIn_wide (n := 9)).1 (callsIn_of_wp_marks Tryz.func24 rfl trivial ?_ rfl)
 simp only [Tryz.ntmps24, List.size_toArray, List.length_cons, List.length_nil, Nat.reduceAdd, Nat.reduceSub, Array.replicate_succ, Array.replicate_zero, List.push_toArray, List.append_toArray, List.nil_append, List.cons_append]
 gi_wp2
 have k5 : (w.alloc (.cells #[.int .i64 0] 37)).heap[w.heap.size]? = some (.cells #[.int .i64 0] 37 (0, 0)) := hpt
 have kB : Below w.heap.size w (w.alloc (.cells #[.int .i64 0] 37)) := bel
 generalize (w.alloc (.cells #[.int .i64 0] 37)) = V0 at *
 refine ⟨trivial, ?_⟩
 refine (callsIn_wide.2 (dcheck_c A n c xs A' n' c' wss V0 (HX.out.below kB rr) (HW.out.below kB rr))).mono ?_
 rintro e w1 ⟨rfl, hb1⟩
 have h5 := (hb1.block _ (lt_of_block k5)).trans k5
 have hB1 : Below w.heap.size w w1 := kB.trans (hb1.mono kB.size)
 clear hb1 k5 kB
 obtain ⟨b5, e5⟩ : ∃ b5, b5 = w.heap.size := ⟨_, rfl⟩
 rw [← e5]
 rw [← e5] at h5
 have e5' := Nat.le_of_eq e5.symm
 have HE5 := hI e5; clear e5
 have l5 := lt_of_block h5
 have c5 := cell_of_one h5
 have f5 := free_of_one h5
 have H5 := hI h5; clear h5
 have HB1 := hI hB1; clear hB1
 obtain ⟨er, her⟩ : ∃ er, er = chkM (lawsD xs) wss := ⟨_, rfl⟩
 rw [← her]
 have HER := hI her; clear her
 by_cases h0 : er = 0
 case neg =>
  have h1 : (er != 0) = true := by simpa using h0
  have HM : Hid (pairsM (lawsD xs) wss = (er, [])) := by show pairsM _ _ = _; unfold pairsM; rw [← HER.out, if_pos h0]
  clear h0
  gi_wp2
  have x5 := one_setCell (u := .int .i64 er) H5.out
  have xB : Below w.heap.size w (w1.setCell ⟨b5, 0, none⟩ (.int .i64 er)) := HB1.out.setCell (p := ⟨b5, 0, none⟩) (by simp; omega) _
  refine post_ret (B := w.heap.size) (by exact trivial) fun w' hw' => ⟨_, results_tmp_errno Tryz.results24 _ _ b5 (.slice none 0 0) er rfl rfl (cell_of_one (hw'.row x5)), none, 0, 0, [], by rw [HM.out], by rw [HM.out]; rfl, ⟨⟨Cells.nil _ _, rfl⟩, fun s hs => by simp at hs⟩, xB.trans hw'.below⟩
 have h1 : (er != 0) = false := by simpa using h0
 have hcw := chk_words (ls := lawsD xs) (wss := wss) (by rw [← HER.out]; exact h0)
 have hw256 := hcw.2.1
 rw [HW.out.len] at hw256
 have HCW := hI hcw.2.2; clear hcw
 have HM : Hid (pairsM (lawsD xs) wss = pairsGo (lawsD xs) wss []) := by show pairsM _ _ = _; unfold pairsM; rw [← HER.out, if_neg (by simpa using h0)]
 clear h0 c5 f5
 have hbs1 := HB1.out.size
 gi_wp2
 refine wpIn_loop (fun a' wr => ∃ (k : Nat) (v : Value) (ss : List PairR) (u2 u3 u6 u8 u9 u10 u11 u12 u13 u14 u15 u19 u20 u21 u22 u23 u24 u25 u26 u27 u28 u29 u30 u31 u32 : Value),
   a' = { tmps := #[.slice A n c, .slice A' n' c', u2, u3, .slice none 0 0, .pointer (some ⟨b5, 0, none⟩), u6, v, u8, u9, u10, u11, u12, u13, u14, u15, .slice A' n' c', .int .i64 n', .int .i64 k, u19, u20, u21, u22, u23, u24, u25, u26, u27, u28, u29, u30, u31, u32], defers := [resc b5] } ∧
   k ≤ n' ∧ ss.length = k ∧ Hid (wr.heap[b5]? = some (.cells #[.int .i64 0] 37 (0, 0))) ∧ Hid (PairsOK wr w1.heap.size v ss) ∧ Hid (pairsM (lawsD xs) wss = pairsGo (lawsD xs) (wss.drop k) (ss.map PairR.data)) ∧ Below w.heap.size w wr)
  (fun a' _ => n' - (intOf (a'.tmps.getD 18 undef)).toNat) ?start ?round
 case start =>
  exact ⟨0, .slice none 0 0, [], _, _, _, _, _, _, _, _, _, _, _, _, _, _, _, _, _, _, _, _, _, _, _, _, _, rfl, Nat.zero_le _, rfl, H5.out, PairsOK.nil w1, HM.out, HB1.out⟩
 case round =>
  rintro _ wr ⟨k, v, ss, u2, u3, u6, u8, u9, u10, u11, u12, u13, u14, u15, u19, u20, u21, u22, u23, u24, u25, u26, u27, u28, u29, u30, u31, u32, rfl, hk, hsl, H5r, HOK, HG, hB⟩
  have hBs := hB.size
  by_cases hlt : k < n'
  ·obtain ⟨b, off, A1, n1, c1, ws, rfl, hb, hcw0, hwk, hws⟩ := HW.out.at_ hlt
   have hcw := (hB.cell (p := ⟨b, off + k, none⟩) hb).trans hcw0
   clear hcw0
   have HWK := hI hwk; clear hwk
   have HWS := hI (hws.below hB rr); clear hws
   have hn1 : n1 ≤ 32 := by have h1 := HCW.out ws (List.mem_of_getElem? HWK.out); have h2 := HWS.out.len; omega
   gi_wp2
   refine ⟨trivial, ?_⟩
   refine (callsIn_wide.2 (clone_c A1 n1 c1 ws wr HWS.out (by omega))).mono ?_
   rintro e w2 ⟨A2, n2, c2, rfl, hw2, hb2, hf2⟩
   have hB2 := hB.trans (hb2.mono hBs)
   gi_wp2
   refine ⟨trivial, ?_⟩
   refine (callsIn_wide.2 (outcome_c A n c xs A1 n1 c1 ws w2 (HX.out.below hB2 rr) (HWS.out.below hb2 rr) (HT.out.below hB2 rr) (by omega))).mono ?_
   rintro e w3 ⟨hb3, hor⟩
   rcases hor with ⟨h0, A3, n3, c3, x, hx, rfl, hw3, hf3⟩ | ⟨h0, rfl⟩
   ·have hB3 := hB2.trans (hb3.mono hB2.size)
    have hx5 := (hb3.block b5 (by have := hb2.size; have := lt_of_block H5r.out; omega)).trans ((hb2.block b5 (lt_of_block H5r.out)).trans H5r.out)
    have hok3 := (HOK.out.below hb2).below hb3
    have hp3 : Aside w1.heap.size v w3 (A2, n2, c2, ws) := ⟨hw2.below hb3 rr, fun ad had => ⟨by have := hf2 ad had; have := HOK.out.sz; omega, fun _ e => by have := (HOK.out.own.lt _ e).2; have := hf2 ad had; omega⟩⟩
    have hq3 : Aside w1.heap.size v w3 (A3, n3, c3, x) := ⟨hw3, fun ad had => ⟨by have := hf3 ad had; have := HOK.out.sz; have := hb2.size; omega, fun _ e => by have := (HOK.out.own.lt _ e).2; have := hf3 ad had; have := hb2.size; omega⟩⟩
    have HGN := hI (HG.out.trans (pairsGo_step HWK.out h0 hx))
    have hba : Below w3.heap.size w3 (w3.alloc (.cells #[.slice A2 n2 c2, .slice A3 n3 c3] 52)) := (Below.refl _ _).alloc rr _
    have hok4 := hok3.below hba
    have hp4 := hp3.below hba
    have hq4 := hq3.below hba
    have hB4 := hB3.trans (hba.mono hB3.size)
    have hx4 := (hba.block b5 (lt_of_block hx5)).trans hx5
    have hz4 : ∀ i u, [Value.slice A2 n2 c2, .slice A3 n3 c3][i]? = some u → (w3.alloc (.cells #[.slice A2 n2 c2, .slice A3 n3 c3] 52)).cell? ((⟨w3.heap.size, 0, none⟩ : Addr).add i) = some u := cells_new_block w3 _ _
    have HOWN4 := hok4.own
    rw [hsl] at HOWN4
    clear hok3 hp3 hq3 hB3 hx5 hba
    gi_wp2_with (refine wpListIn_append_at rfl (.tmp 22) (.tmp 29) 47 rfl w1.heap.size 52 (.agg #[.slice none 0 0, .slice none 0 0]) 2 48 Tryz.underlying47 pair_info rfl (by decide) v k _ rfl HOWN4 ⟨w3.heap.size, 0, none⟩ 1 1 [.slice A2 n2 c2, .slice A3 n3 c3] rfl rfl hz4 (by intro u hu; simp at hu; rcases hu with rfl | rfl <;> rfl) (by unfold maxLen; omega) (by omega) hok4.sz ?_; intro v' w6 hown6 hg6 hat6)
    have hok6 : PairsOK w6 w1.heap.size v' (ss ++ [PairR.mk (A2, n2, c2, ws) (A3, n3, c3, x)]) := hok4.push hp4 hq4 (by rw [hsl]; exact hown6) hg6 hat6
    have hnb : some b5 ≠ v.ownBlock := fun e => by have := (hok4.own.lt b5 e.symm).1; omega
    have hx6 := (hg6.block b5 (lt_of_block hx4) hnb).trans hx4
    have hB6 : Below w.heap.size w w6 := hB4.grown hg6 hB4.size (fun k hk => by have := (hok4.own.lt k hk).1; omega)
    refine ⟨⟨k + 1, v', ss ++ [PairR.mk (A2, n2, c2, ws) (A3, n3, c3, x)], _, _, _, _, _, _, _, _, _, _, _, _, _, _, _, _, _, _, _, _, _, _, _, _, _, by rw [show ((k + 1 : Nat) : Int) = (k : Int) + 1 by omega], by omega, by simp [hsl], hx6, hok6, by rw [List.map_append]; exact HGN.out, hB6⟩, by simp [intOf]; omega⟩
   ·have HM' : Hid (pairsM (lawsD xs) wss = ((formsM (lawsD xs) ws).1, [])) := by show pairsM _ _ = _; rw [HG.out]; exact pairsGo_fail HWK.out h0
    have hB3 := hB2.trans (hb3.mono hB2.size)
    have x5 := (hb3.block b5 (by have := hb2.size; have := lt_of_block H5r.out; omega)).trans ((hb2.block b5 (lt_of_block H5r.out)).trans H5r.out)
    refine leavesM_marks (B := w.heap.size) (ds := []) (rest := [resc b5]) (by simp) _ trivial fun w' hw' => ?_
    have y5 := one_setCell (u := .int .i64 (formsM (lawsD xs) ws).1) (hw'.row x5)
    exact leaves_rescue_fail (hw'.row x5) ⟨_, results_tmp_errno Tryz.results24 _ _ b5 (.slice none 0 0) (formsM (lawsD xs) ws).1 rfl rfl (cell_of_one y5), none, 0, 0, [], by rw [HM'.out], by rw [HM'.out]; rfl, ⟨⟨Cells.nil _ _, rfl⟩, fun s hs => by simp at hs⟩, (hB3.trans hw'.below).setCell (p := ⟨b5, 0, none⟩) (by simp; omega) _⟩
  ·obtain rfl : k = n' := by omega
   have hfin : pairsM (lawsD xs) wss = (0, ss.map PairR.data) := by rw [HG.out, List.drop_eq_nil_of_le (by rw [HW.out.len]; exact rr)]; rfl
   have HFIN := hI hfin; clear hfin
   obtain ⟨A9, c9, hv9⟩ := own_form HOK.out.own
   subst hv9
   have c5 := cell_of_one H5r.out
   have f5 := free_of_one H5r.out
   gi_wp2
   have y5 := one_setCell (u := .int .i64 0) H5r.out
   have yB : Below w.heap.size w (wr.setCell ⟨b5, 0, none⟩ (.int .i64 0)) := hB.setCell (p := ⟨b5, 0, none⟩) (by simp; omega) _
   have yP := (HOK.out.low (u := .int .i64 0) l5).pairs rfl
   rw [hsl] at yP
   refine leavesM_marks (B := w.heap.size) (ds := []) (rest := [resc b5]) (by simp) _ trivial fun w' hw' => ?_
   exact leaves_rescue_ret ⟨_, results_tmp_errno Tryz.results24 _ _ b5 (.slice A9 k c9) 0 rfl rfl (cell_of_one (hw'.row y5)), A9, k, c9, ss, by rw [HFIN.out], by rw [HFIN.out], yP.shut hw', yB.trans hw'.below⟩
end Go.Proofs.YtlgliddhideflaaGreatDoor

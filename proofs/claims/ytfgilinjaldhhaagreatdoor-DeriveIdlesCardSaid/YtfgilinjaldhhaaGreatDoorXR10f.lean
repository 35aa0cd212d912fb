/-
  ablautref10: Pairs.
-/
import Derived.Test.YtfgilinjaldhhaaGreatDoorXR10e
import Derived.Test.YtfgilinjaldhhaaGreatDoorG30
import Derived.Test.YtfgilinjaldhhaaGreatDoorXPairs1
import Derived.Test.YtfgilinjaldhhaaGreatDoorXCountsL
set_option linter.unusedVariables false
set_option linter.unusedSimpArgs false
set_option maxRecDepth 100000
set_option maxHeartbeats 4000000
namespace Go.Proofs.YtfgilinjaldhhaaGreatDoor
open Go.RowKit Go.Shelf
attribute [local go_sem] Oper.semAt_some
theorem append_pair {ops : Array Oper} {rest : List Oper} {o : Oper} {a : Act} {w : World} {Q : Exit → Act → World → Prop} (hgd : o.guard = none) (s x : Operand)
  (ho : o.op = .call { callee := .builtin .append, args := #[s, x], argTypes := #[52, 52] })
  (base : Nat) (v : Value) (n : Nat) (xs : List Value) (hs : a.eval s = v) (hown : w.ownsRow base 70 2 v n xs)
  (ad : Addr) (c : Nat) (y z : Value) (hx : a.eval x = .slice (some ad) 1 c) (hr : ∀ j u, [y, z][j]? = some u → w.cell? (ad.add j) = some u) (hy : y.oneCell' = true) (hz : z.oneCell' = true) (hl : n + 1 ≤ 4096) (hbase : base ≤ w.heap.size)
  (h : ∀ v' w', w'.ownsRow base 70 2 v' (n + 1) (xs ++ [y, z]) → w.grownBy w' v.ownBlock → (v'.ownBlock = v.ownBlock ∨ v'.ownBlock = some w.heap.size) →
   wpList Tryz.prog ops Q rest (a.put o.dst v') w') : wpList Tryz.prog ops Q (o :: rest) a w := by
 obtain ⟨i0, hi, hz0, hz1, hz2⟩ := info_parts pair_info
 exact wpList_append_own_at w hgd s x 52 ho base 70 i0 _ 2 48 Tryz.underlying52 hi hz0 hz1 hz2 rfl (by decide) v n xs hs hown ad 1 c [y, z] hx rfl hr
  (by intro u hu; simp at hu; rcases hu with rfl | rfl; exact hy; exact hz) (by unfold maxLen; omega) (by omega) hbase fun v' w' h1 h2 _ h4 => h v' w' h1 h2 h4
structure PairsW (w : World) (B : Nat) (v : Value) (ss : List PairR) : Prop where
 own : w.ownsRow B 70 2 v ss.length (ss.flatMap PairR.cells)
 pq : ∀ s ∈ ss, Away v w s.p ∧ Away v w s.q
 sz : B ≤ w.heap.size
theorem PairsW.below {w w' : World} {B : Nat} {v : Value} {ss : List PairR} (h : PairsW w B v ss) (hb : Below w.heap.size w w') : PairsW w' B v ss :=
 ⟨own_heap h.own fun k e => hb.block k (h.own.lt k e).2, fun s hs => ⟨(h.pq s hs).1.below hb, (h.pq s hs).2.below hb⟩, Nat.le_trans h.sz hb.size⟩
theorem PairsW.nil (w : World) : PairsW w w.heap.size (.slice none 0 0) [] := ⟨World.ownsRow_nil _ _ _ _, fun s hs => by simp at hs, rr⟩
theorem PairsW.pairs {w : World} {B : Nat} {A : Option Addr} {n c : Nat} {ss : List PairR} (h : PairsW w B (.slice A n c) ss) (hn : n = ss.length) : IsPairs w A n c ss := by
 subst hn
 exact ⟨Recs.of_own h.own PairR.len (by decide), fun s hs => ⟨(h.pq s hs).1.1, (h.pq s hs).2.1⟩⟩
theorem PairsW.push {w X : World} {B : Nat} {v v' : Value} {ss : List PairR} (h : PairsW w B v ss) {s : PairR} (hp : Away v w s.p) (hq : Away v w s.q)
  (hown : X.ownsRow B 70 2 v' (ss.length + 1) (ss.flatMap PairR.cells ++ s.cells)) (hg : w.grownBy X v.ownBlock) (hat : v'.ownBlock = v.ownBlock ∨ v'.ownBlock = some w.heap.size) : PairsW X B v' (ss ++ [s]) := by
 refine ⟨?_, fun t ht => ?_, Nat.le_trans h.sz hg.size⟩
 ·rw [List.length_append, List.length_singleton, List.flatMap_append, List.flatMap_singleton]; exact hown
 ·rcases List.mem_append.1 ht with ht | ht
  ·exact ⟨(h.pq t ht).1.grown hg hat, (h.pq t ht).2.grown hg hat⟩
  ·obtain rfl : t = s := by simpa using ht
   exact ⟨hp.grown hg hat, hq.grown hg hat⟩
theorem PairsW.fresh {w w' : World} {B : Nat} {v : Value} {ss : List PairR} {q : Part} (h : PairsW w B v ss) (hq : IsWord w' q.1 q.2.1 q.2.2.1 q.2.2.2) (hf : ∀ ad, q.1 = some ad → w.heap.size ≤ ad.block) : Away v w' q :=
 ⟨hq, fun ad had _ e => by have := (h.own.lt _ e).2; have := hf ad had; omega⟩
theorem chk_none {ls : List LawD} {wss : List (List Snd)} (h1 : lawsE ls = 0) (h2 : wordsE wss = 0) : chkM ls wss = 0 := by rw [chk_wordsE, if_neg (by simpa using h1), h2]
theorem wordsE_all {wss : List (List Snd)} (h : wordsE wss = 0) : wss.length ≤ 256 ∧ ∀ ws ∈ wss, wcheck ws = 0 := by
 unfold wordsE at h
 by_cases h2 : 256 < wss.length
 ·rw [if_pos h2] at h; exact absurd h (by decide)
 ·rw [if_neg h2] at h; exact ⟨by omega, firstE_zero h⟩
theorem chk_of {ls : List LawD} {ws : List Snd} (h1 : lawsE ls = 0) (h2 : wcheck ws = 0) : chkM ls [ws] = 0 := by rw [chk_one, if_neg (by simpa using h1), h2]
theorem r10Pairs_c (A : Option Addr) (n c : Nat) (xs : List LawR) (A' : Option Addr) (n' c' : Nat) (wss : List (List Snd)) (w : World) (hx : IsLaws w A n c xs) (hw : IsWords w A' n' c' wss) (hu : LawsU xs) (hwu : ∀ x ∈ wss, WordU x) :
  Calls Tryz.prog 28 #[.slice A n c, .slice A' n' c'] w (RetPairs w (pairsM (lawsD xs) wss)) := by
 have hmx := hx.max
 have hmw := hw.max
 have HX := hI hx; clear hx
 have HW := hI hw; clear hw
 have HU := hI hu; clear hu
 have HWU := hI hwu; clear hwu
 obtain ⟨ea, hea⟩ : ∃ ea, ea = lawsE (lawsD xs) := ⟨_, rfl⟩
 have HEA := hI hea
 obtain ⟨eb, heb⟩ : ∃ eb, eb = wordsE wss := ⟨_, rfl⟩
 have HEB := hI heb
 go_enter Tryz.func28, Tryz.ntmps28
 go_wp2_with fail
 refine (r10Check_c A n c xs w HX.out HU.out).mono ?_
 rintro e w1 ⟨rfl, hB1⟩
 rw [← hea]
 clear hea
 have HB1 := hI hB1; clear hB1
 by_cases h0 : ea = 0
 case neg =>
  have h1 : (ea != 0) = true := by simpa using h0
  have h1' : (ea == 0) = false := by simpa using h0
  have HM : Hid (pairsM (lawsD xs) wss = (ea, [])) := by show pairsM _ _ = _; have hc : chkM (lawsD xs) wss = ea := (by rw [chk_wordsE, ← HEA.out, if_pos h0]); unfold pairsM; rw [hc, if_pos h0]
  clear h0 heb
  go_wp2
  go_ret2
  exact ⟨none, 0, 0, [], by rw [HM.out]; rfl, by rw [HM.out]; rfl, ⟨⟨Cells.nil _ _, rfl⟩, fun s hs => by simp at hs⟩, HB1.out⟩
 have h1' : (ea == 0) = true := by simpa using h0
 have HA0 := hI h0; clear h0
 go_wp2_with fail
 refine (r10Words_c A' n' c' wss w1 (HW.out.below HB1.out rr) HWU.out).mono ?_
 rintro e w2 ⟨rfl, hb2⟩
 rw [← heb]
 clear heb h1'
 have HB2 := hI (HB1.out.trans (hb2.mono HB1.out.size)); clear hb2
 by_cases h2 : eb = 0
 case neg =>
  have h3 : (eb != 0) = true := by simpa using h2
  have HM : Hid (pairsM (lawsD xs) wss = (eb, [])) := by show pairsM _ _ = _; have hc : chkM (lawsD xs) wss = eb := (by rw [chk_wordsE, ← HEA.out, if_neg (by simpa using HA0.out), ← HEB.out]); unfold pairsM; rw [hc, if_pos h2]
  clear h2
  go_wp2
  go_ret2
  exact ⟨none, 0, 0, [], by rw [HM.out]; rfl, by rw [HM.out]; rfl, ⟨⟨Cells.nil _ _, rfl⟩, fun s hs => by simp at hs⟩, HB2.out⟩
 have h3 : (eb != 0) = false := by simpa using h2
 have hlz : lawsE (lawsD xs) = 0 := by rw [← HEA.out]; exact HA0.out
 have hwz : wordsE wss = 0 := by rw [← HEB.out]; exact h2
 have HM : Hid (pairsM (lawsD xs) wss = pairsGo (lawsD xs) wss []) := by show pairsM _ _ = _; unfold pairsM; rw [if_neg (by simpa using chk_none hlz hwz)]
 have HALL := hI (wordsE_all hwz).2
 have h256 : n' ≤ 256 := by have h := (wordsE_all hwz).1; rw [HW.out.len] at h; exact h
 have HLZ := hI hlz; clear hlz hwz h2
 have hB2s := HB2.out.size
 go_wp2_with fail
 go_loopw [7, 8] (fun v i wr => ∃ (k : Nat) (ss : List PairR), i = .int .i64 k ∧ k ≤ n' ∧ ss.length = k ∧ Hid (PairsW wr w2.heap.size v ss) ∧ Hid (pairsM (lawsD xs) wss = pairsGo (lawsD xs) (wss.drop k) (ss.map PairR.data)) ∧ Below w.heap.size w wr) (fun _ i _ => n' - (intOf i).toNat)
 case atStart => exact ⟨0, [], rfl, Nat.zero_le _, rfl, PairsW.nil w2, HM.out, HB2.out⟩
 case round =>
  obtain ⟨k, ss, rfl, hk, hsl, hok, hgo, hB⟩ := hrel
  have hBs := hB.size
  obtain ⟨A7, c7, rfl⟩ := own_form hok.out.own
  by_cases hlt : k < n'
  ·obtain ⟨b, off, A1, n1, c1, x, rfl, hbl, hcell, hxk, hwx⟩ := (HW.out.below hB rr).at_ hlt
   have hlt' : (k : Int) < (n' : Int) := by omega
   have hmem := List.mem_of_getElem? hxk
   have HXU : Hid (WordU x) := HWU.out x hmem
   have hwc := HALL.out x hmem
   have hn1 : n1 ≤ 32 := by rw [← hwx.len]; exact (wcheck_iff.1 hwc).1
   have HCH := hI (chk_of HLZ.out hwc)
   have HOKS := hI (formsM_ok _ x (lawsE_all HLZ.out).2 hwc).1
   have HXK := hI hxk
   have HWX := hI hwx; clear hwx hxk hmem hwc
   go_wp2_with fail
   refine (r10DeriveF_c A n c xs A1 n1 c1 x wr (HX.out.below hB rr) HWX.out HU.out HXU.out).mono ?_
   rw [deriveM_of HCH.out]
   obtain ⟨fa, hfa⟩ : ∃ fa, fa = formsM (lawsD xs) x := ⟨_, rfl⟩
   rw [← hfa]
   rintro e w3 ⟨A3, n3, c3, rfl, hw3, hb3, hf3⟩
   have hB3 := hB.trans (hb3.mono hBs)
   by_cases h4 : fa.1 = 0
   ·rw [if_neg (by simpa using h4)] at hw3 ⊢
    have hcell3 := (hb3.cell (p := ⟨b, off + k, none⟩) hbl).trans hcell
    have hbl3 : b < w3.heap.size := Nat.lt_of_lt_of_le hbl hb3.size
    have HWX3 := hI (HWX.out.below hb3 rr)
    have HOK3 := hI (hok.out.below hb3)
    have HQ3 := hI (hok.out.fresh (q := (A3, n3, c3, fa.2.getLast?.getD [])) hw3 hf3)
    have HGN : Hid (pairsM (lawsD xs) wss = pairsGo (lawsD xs) (wss.drop (k + 1)) (ss.map PairR.data ++ [(x, fa.2.getLast?.getD [])])) := by
     show _ = _
     rw [hgo.out]
     obtain ⟨r, hr⟩ := formsM_pos (lawsD xs) x
     obtain ⟨y, hy⟩ : ∃ y, (formsM (lawsD xs) x).2.getLast? = some y := by rw [hr]; exact ⟨_, List.getLast?_cons⟩
     rw [pairsGo_step HXK.out (by rw [← hfa]; exact h4) hy, hfa, hy]; rfl
    clear hcell hok hb3 hw3 hf3 hfa h4
    go_wp2_with fail
    refine (r2Copy_c A1 n1 c1 x w3 HWX3.out (by omega)).mono ?_
    rintro e w4 ⟨A4, n4, c4, rfl, hw4, hb4, hf4⟩
    have HP4 := hI (HOK3.out.fresh (q := (A4, n4, c4, x)) hw4 hf4)
    have HQ4 := hI (HQ3.out.below hb4)
    have HOK4 := hI (HOK3.out.below hb4)
    have hB4 := hB3.trans (hb4.mono hB3.size)
    clear hw4 hb4 hf4 HOK3 HQ3
    have hba : Below w4.heap.size w4 (w4.alloc (.cells #[.slice A4 n4 c4, .slice A3 n3 c3] 70)) := (Below.refl _ _).alloc rr _
    have hok5 := HOK4.out.below hba
    have hown5 := hok5.own
    rw [hsl] at hown5
    have HOWN5 := hI hown5
    have HBA := hI hba
    go_wp2_with (at_builtin; refine append_pair rfl (.tmp 38) (.tmp 46) rfl w2.heap.size (.slice A7 k c7) k (ss.flatMap PairR.cells) rfl HOWN5.out ⟨w4.heap.size, 0, none⟩ 1 (.slice A4 n4 c4) (.slice A3 n3 c3) rfl (cells_new_block w4 _ _) rfl rfl (by omega) ?hz2 ?hc2)
    case hz2 => have := HOK4.out.sz; simp; omega
    case hc2 =>
     intro v6 w6 hown6 hg6 hat6
     have HAT6 : v6.ownBlock = (Value.slice A7 ss.length c7).ownBlock ∨ v6.ownBlock = some (w4.alloc (.cells #[.slice A4 n4 c4, .slice A3 n3 c3] 70)).heap.size := by rw [hsl]; exact hat6.imp id (fun e => e.trans (by simp))
     have h6 := (HOK4.out.below HBA.out).push (s := ⟨(A4, n4, c4, x), (A3, n3, c3, fa.2.getLast?.getD [])⟩) (HP4.out.below HBA.out) (HQ4.out.below HBA.out) (by rw [hsl]; exact hown6) (by rw [hsl]; exact hg6) HAT6
     have H6 := hI h6
     have hB6 : Below w.heap.size w w6 := (hB4.trans (HBA.out.mono hB4.size)).grown hg6 (by have := hB4.size; simp; omega) (fun j hj => by have := (HOK4.out.own.lt j (by rw [hsl]; exact hj)).1; omega)
     clear h6 hown6 hg6 hat6 HAT6 HOK4 HP4 HQ4 hown5 hok5 hba HOWN5 HBA
     go_wp2
     go_roundw
     case rel => exact ⟨k + 1, _, by go_num, by omega, (by rw [List.length_append, hsl]; rfl), H6, (by show _ = _; rw [List.map_append]; exact HGN.out), hB6⟩
     case measure => simp [intOf] <;> omega
   ·have h5 : fa.1 = 11 := by rcases HOKS.out with h | h <;> rw [← hfa] at h; exact absurd h h4; exact h
    have HM' : Hid (pairsM (lawsD xs) wss = (11, [])) := by show _ = _; rw [hgo.out, pairsGo_fail HXK.out (by rw [← hfa]; exact h4), ← hfa, h5]
    rw [if_pos h4] at hw3 ⊢
    clear h4 h5 hfa hcell hw3 hf3
    go_wp2
    go_ret2
    exact ⟨none, 0, 0, [], by rw [HM'.out]; rfl, by rw [HM'.out]; rfl, ⟨⟨Cells.nil _ _, rfl⟩, fun s hs => by simp at hs⟩, hB3⟩
  ·obtain rfl : k = n' := by omega
   have hfin : pairsM (lawsD xs) wss = (0, ss.map PairR.data) := by rw [hgo.out, List.drop_eq_nil_of_le (by rw [HW.out.len]; exact rr)]; rfl
   have HFIN := hI hfin; clear hfin
   go_wp2
   go_ret2
   exact ⟨A7, _, c7, ss, by rw [HFIN.out]; rfl, by rw [HFIN.out], hok.out.pairs rfl, hB⟩
end Go.Proofs.YtfgilinjaldhhaaGreatDoor

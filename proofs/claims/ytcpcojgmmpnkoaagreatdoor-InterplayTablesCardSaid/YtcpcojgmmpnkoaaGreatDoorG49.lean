/-
  ablautref12: check, Moved.
  ablautref12.Table.
-/
import Derived.Test.YtcpcojgmmpnkoaaGreatDoorG30
import Derived.Test.YtcpcojgmmpnkoaaGreatDoorG42
import Derived.Test.YtcpcojgmmpnkoaaGreatDoorXWoL
import Derived.Test.YtcpcojgmmpnkoaaGreatDoorG40
import Derived.Test.YtcpcojgmmpnkoaaGreatDoorG34
import Derived.Test.YtcpcojgmmpnkoaaGreatDoorG48
import Derived.Test.YtcpcojgmmpnkoaaGreatDoorG47
set_option linter.unusedVariables false
set_option linter.unusedSimpArgs false
set_option maxRecDepth 100000
set_option maxHeartbeats 4000000
namespace Go.Proofs.YtcpcojgmmpnkoaaGreatDoor
open Go.RowKit Go.Shelf
theorem r12check_c (A : Option Addr) (n c : Nat) (xs : List LawR) (A' : Option Addr) (n' c' : Nat) (wss : List (List Snd)) (w : World) (hx : IsLaws w A n c xs) (hw : IsWords w A' n' c' wss) (hu : LawsU xs) (hwu : ∀ x ∈ wss, WordU x) :
  Calls Tryz.prog 102 #[.slice A n c, .slice A' n' c'] w fun e w' => e = .returned (.int .i64 (chkM (lawsD xs) wss)) ∧ Below w.heap.size w w' := by
 have hm := hw.max
 have HL : Hid (wss.length = n') := hw.len
 have HX := hI hx; clear hx
 have HW := hI hw; clear hw
 have HU := hI hu; clear hu
 have HWU := hI hwu; clear hwu
 obtain ⟨ea, hea⟩ : ∃ ea, ea = lawsE (lawsD xs) := ⟨_, rfl⟩
 have HEA := hI hea
 go_enter Tryz.func102, Tryz.ntmps102
 go_wp2_with fail
 refine (r10Check_c A n c xs w HX.out HU.out).mono ?_
 rintro e w1 ⟨rfl, hB1⟩
 rw [← hea]
 clear hea
 by_cases h0 : ea = 0
 case neg =>
  have h1 : (ea != 0) = true := by simpa using h0
  have HM : Hid (chkM (lawsD xs) wss = ea) := by show chkM _ _ = _; unfold chkM; rw [← HEA.out, if_pos h0]
  clear h0
  go_wp2
  go_ret
  exact ⟨by rw [HM.out]; rfl, hB1⟩
 have h1 : (ea != 0) = false := by simpa using h0
 have hM : chkM (lawsD xs) wss = if 256 < wss.length then 12 else firstE wss := by unfold chkM; rw [← HEA.out, if_neg (by simpa using h0)]
 clear h0
 by_cases h256 : 256 < n'
 ·have HM : Hid (chkM (lawsD xs) wss = 12) := by show _ = _; rw [hM, if_pos (by rw [HL.out]; exact h256)]
  clear hM
  go_wp2
  go_ret
  exact ⟨by rw [HM.out]; rfl, hB1⟩
 ·have HR : Hid (chkM (lawsD xs) wss = firstE wss) := by show _ = _; rw [hM, if_neg (by rw [HL.out]; exact h256)]
  clear hM
  go_wp2_with fail
  go_loopw [6] (fun i wr => ∃ k : Nat, k ≤ n' ∧ i = .int .i64 k ∧ Hid ((wss.take k).all (fun x => wcheck x == 0) = true) ∧ Below w.heap.size w wr) (fun i _ => n' - (intOf i).toNat)
  case atStart => exact ⟨0, Nat.zero_le _, rfl, rfl, hB1⟩
  case round =>
   obtain ⟨k, hk, rfl, hall, hB⟩ := hrel
   have hBs := hB.size
   by_cases hlt : k < n'
   ·obtain ⟨b, off, A2, n2, c2, x, rfl, hbl, hcell, hxk, hwx⟩ := (HW.out.below hB rr).at_ hlt
    have hlt' : (k : Int) < (n' : Int) := by omega
    have HXU : Hid (WordU x) := HWU.out x (List.mem_of_getElem? hxk)
    have HXK := hI hxk
    have HS := hI (take_snoc' wss k x hxk)
    have HWX := hI hwx; clear hwx hxk
    go_wp2_with fail
    refine (r2Check_c A2 n2 c2 x wr HWX.out HXU.out).mono ?_
    rintro e w5 ⟨rfl, hb5⟩
    have hB5 := hB.trans (hb5.mono hBs)
    clear hb5 hcell
    by_cases hv : wcheck x = 0
    ·have hv' : (wcheck x != 0) = false := by simpa using hv
     have HG : Hid ((wss.take (k + 1)).all (fun x => wcheck x == 0) = true) := by show _ = _; rw [HS.out, List.all_append, hall.out]; simp [hv]
     clear hv
     go_wp2
     go_roundw
     case rel => exact ⟨k + 1, by omega, by go_num, HG, hB5⟩
     case measure => simp [intOf]; omega
    ·have hv' : (wcheck x != 0) = true := by simpa using hv
     have HF : Hid (chkM (lawsD xs) wss = wcheck x) := by show _ = _; rw [HR.out]; exact firstE_snoc HXK.out hall.out hv
     clear hv
     go_wp2
     go_ret
     exact ⟨by rw [HF.out]; rfl, hB5⟩
   ·obtain rfl : k = n' := by omega
    have HF : Hid (chkM (lawsD xs) wss = 0) := by
     show _ = _
     have := hall.out
     rw [List.take_of_length_le (by rw [HL.out]; exact rr)] at this
     rw [HR.out]; exact firstE_none this
    go_wp2
    go_ret
    exact ⟨by rw [HF.out]; rfl, hB⟩
theorem append_row {ops : Array Oper} {rest : List Oper} {o : Oper} {a : Act} {w : World} {Q : Exit → Act → World → Prop} (hgd : o.guard = none) (s x : Operand)
  (ho : o.op = .call { callee := .builtin .append, args := #[s, x], argTypes := #[62, 62] })
  (base : Nat) (v : Value) (n : Nat) (xs : List Value) (hs : a.eval s = v) (hown : w.ownsRow base 43 1 v n xs)
  (ad : Addr) (c : Nat) (y : Value) (hx : a.eval x = .slice (some ad) 1 c) (hr : ∀ j u, [y][j]? = some u → w.cell? (ad.add j) = some u) (hy : y.oneCell' = true) (hl : n + 1 ≤ 4096) (hbase : base ≤ w.heap.size)
  (h : ∀ v' w', w'.ownsRow base 43 1 v' (n + 1) (xs ++ [y]) → w.grownBy w' v.ownBlock → (v'.ownBlock = v.ownBlock ∨ v'.ownBlock = some w.heap.size) →
   wpList Tryz.prog ops Q rest (a.put o.dst v') w') : wpList Tryz.prog ops Q (o :: rest) a w := by
 obtain ⟨i0, hi, hz0, hz1, hz2⟩ := info_parts rowI_info
 exact wpList_append_own_at w hgd s x 62 ho base 43 i0 _ 1 24 Tryz.underlying62 hi hz0 hz1 hz2 rfl (by decide) v n xs hs hown ad 1 c [y] hx rfl hr
  (by intro u hu; simp at hu; subst hu; exact hy) (by unfold maxLen; omega) (by omega) hbase fun v' w' h1 h2 _ h4 => h v' w' h1 h2 h4
structure RowSt (B n : Nat) (v : Value) (gs : List Nat) (rows : List (List Int)) (w : World) : Prop where
 own : w.ownsRow B 43 1 v gs.length (gs.map (rowV n))
 hr : RowsAt w n gs rows
 ne : ∀ x ∈ gs, v.ownBlock ≠ some x
 lt : ∀ x ∈ gs, x < w.heap.size
theorem RowSt.below {B n : Nat} {v : Value} {gs : List Nat} {rows : List (List Int)} {w w' : World} (h : RowSt B n v gs rows w) (hb : Below w.heap.size w w') : RowSt B n v gs rows w' :=
 ⟨own_heap h.own fun k e => hb.block k (h.own.lt k e).2, h.hr.below hb rr, h.ne, fun x hx => Nat.lt_of_lt_of_le (h.lt x hx) hb.size⟩
structure RefSt (B n g : Nat) (v : Value) (gs : List Nat) (rows : List (List Int)) (row : List Int) (w : World) : Prop where
 st : RowSt B n v gs rows w
 hg : w.heap[g]? = some (.cells (cntC row) 3 (0, 0))
 ng : v.ownBlock ≠ some g ∧ ∀ x ∈ gs, x ≠ g
theorem RefSt.below {B n g : Nat} {v : Value} {gs : List Nat} {rows : List (List Int)} {row : List Int} {w w' : World} (h : RefSt B n g v gs rows row w) (hb : Below w.heap.size w w') : RefSt B n g v gs rows row w' :=
 ⟨h.st.below hb, (hb.block _ (lt_of_block h.hg)).trans h.hg, h.ng⟩
theorem RefSt.set {B n g : Nat} {v : Value} {gs : List Nat} {rows : List (List Int)} {row : List Int} {w : World} (h : RefSt B n g v gs rows row w) (j : Nat) (x : Int) : RefSt B n g v gs rows (row.set j x) (w.setCell ⟨g, j, none⟩ (.int .i64 x)) := by
 have hk : Keep (fun k => k = g) w (w.setCell ⟨g, j, none⟩ (.int .i64 x)) := (Keep.refl (fun k => k = g) w).setCell (p := ⟨g, j, none⟩) rfl _
 refine ⟨⟨own_heap h.st.own fun k e => hk.block k (h.st.own.lt k e).2 (fun e' => h.ng.1 (e' ▸ e)), h.st.hr.keep hk h.ng.2, h.st.ne, fun y hy => Nat.lt_of_lt_of_le (h.st.lt y hy) hk.size⟩, ?_, h.ng⟩
 rw [← cntC_set]; exact heap_setCell_same h.hg
theorem RefSt.push {B n g : Nat} {v v' : Value} {gs : List Nat} {rows : List (List Int)} {row : List Int} {w X : World} (h : RefSt B n g v gs rows row w) (hl : row.length = n) (hown : X.ownsRow B 43 1 v' (gs.length + 1) (gs.map (rowV n) ++ [rowV n g])) (hg : w.grownBy X v.ownBlock) (hat : v'.ownBlock = v.ownBlock ∨ v'.ownBlock = some w.heap.size) : RowSt B n v' (gs ++ [g]) (rows ++ [row]) X := by
 have hk : Keep (fun k => v.ownBlock = some k) w X := (Keep.refl (fun k => v.ownBlock = some k) w).grown hg (fun k e => .inl e)
 have hlt := lt_of_block h.hg
 have hmem : ∀ x ∈ gs ++ [g], v.ownBlock ≠ some x ∧ x < w.heap.size := fun x hx => by
  rcases List.mem_append.1 hx with h1 | h1
  ·exact ⟨h.st.ne x h1, h.st.lt x h1⟩
  ·obtain rfl : x = g := by simpa using h1
   exact ⟨h.ng.1, hlt⟩
 refine ⟨?_, ?_, fun x hx => ?_, fun x hx => Nat.lt_of_lt_of_le (hmem x hx).2 hk.size⟩
 ·rw [List.length_append, List.length_singleton, List.map_append, List.map_singleton]; exact hown
 ·exact (h.st.hr.keep hk h.st.ne).snoc hl ((hk.block g hlt h.ng.1).trans h.hg)
 ·rcases hat with e | e
  ·rw [e]; exact (hmem x hx).1
  ·rw [e]; intro e'; injection e' with e'; have := (hmem x hx).2; omega
theorem r12Table_c (A : Option Addr) (n c : Nat) (xs : List LawR) (A' : Option Addr) (n' c' : Nat) (wss : List (List Snd)) (w : World) (hx : IsLaws w A n c xs) (hw : IsWords w A' n' c' wss) (hu : LawsU xs) (hwu : ∀ x ∈ wss, WordU x) :
  Calls Tryz.prog 40 #[.slice A n c, .slice A' n' c'] w (RetTbl w n (tableM (lawsD xs) wss)) := by
 have hmx := hx.max
 have hmw := hw.max
 have HX := hI hx; clear hx
 have HW := hI hw; clear hw
 have HU := hI hu; clear hu
 have HWU := hI hwu; clear hwu
 have HLN : Hid ((lawsD xs).length = n) := by show (lawsD xs).length = n; rw [lawsD, List.length_map]; exact HX.out.len
 obtain ⟨er, her⟩ : ∃ er, er = chkM (lawsD xs) wss := ⟨_, rfl⟩
 have HER := hI her
 go_enter Tryz.func40, Tryz.ntmps40
 go_wp2_with fail
 refine (r12check_c A n c xs A' n' c' wss w HX.out HW.out HU.out HWU.out).mono ?_
 rintro e w1 ⟨rfl, hB1⟩
 rw [← her]
 clear her
 have HB1 := hI hB1; clear hB1
 by_cases h0 : er = 0
 case neg =>
  have h1 : (er != 0) = true := by simpa using h0
  have HM : Hid (tableM (lawsD xs) wss = (er, [])) := by show _ = _; unfold tableM; rw [← HER.out, if_pos h0]
  clear h0
  go_wp2
  go_ret2
  exact RetTbl.bad HM.out HB1.out
 have h1 : (er != 0) = false := by simpa using h0
 have hcw := chk_words (ls := lawsD xs) (wss := wss) (by rw [← HER.out]; exact h0)
 have hl64 := lawsE_len hcw.1
 rw [HLN.out] at hl64
 have hw256 := hcw.2.1
 rw [HW.out.len] at hw256
 have HM : Hid (tableM (lawsD xs) wss = tabGo (lawsD xs) wss n 0 []) := by show tableM _ _ = _; unfold tableM; rw [← HER.out, if_neg (by simpa using h0), HLN.out]
 clear h0 hcw
 have hmk := fun w => run_make_row' (P := Tryz.prog) 43 3 (.int .i64 0) 8 Tryz.underlying43 int_info rfl .i64 .i64 n (by omega) (by omega) w
 have hnm : n ≤ maxLen := by unfold maxLen; omega
 have HBL : Hid (∀ W, Below w1.heap.size w1 W → Below w.heap.size w W) := fun W hW => HB1.out.trans (hW.mono HB1.out.size)
 go_wp2_with fail
 go_loopw [7, 8] (fun v vi wr => ∃ (i : Nat) (gs : List Nat) (rows : List (List Int)), vi = .int .i64 i ∧ i ≤ n ∧ gs.length = i ∧ Hid (RowSt w1.heap.size n v gs rows wr) ∧ Hid (tableM (lawsD xs) wss = tabGo (lawsD xs) wss (n - i) i rows) ∧ Below w1.heap.size w1 wr) (fun _ vi _ => n - (intOf vi).toNat)
 case atStart => exact ⟨0, [], [], rfl, Nat.zero_le _, rfl, ⟨World.ownsRow_nil _ _ _ _, RowsAt.nil _ _, (fun x hx => by cases hx), fun x hx => by cases hx⟩, HM.out, Below.refl _ _⟩
 case round =>
  obtain ⟨i, gs, rows, rfl, hi, hgl0, hst0, hgo, hB⟩ := hrel
  have hgi : gs.length ≤ i := Nat.le_of_eq hgl0
  have HGL := hI hgl0; clear hgl0
  have hBs := hB.size
  by_cases hlt : i < n
  ·have hi1 : (i : Int) < (n : Int) := by omega
   have hmk1 := hmk wr
   go_wp2_with fail
   clear hmk1
   rw [made_cnt]
   have hb1 : Below wr.heap.size wr (wr.alloc (.cells (cntC (List.replicate n 0)) 3)) := bel
   have hxg : (wr.alloc (.cells (cntC (List.replicate n 0)) 3)).heap[wr.heap.size]? = some (.cells (cntC (List.replicate n 0)) 3 (0, 0)) := hpt
   generalize (wr.alloc (.cells (cntC (List.replicate n 0)) 3)) = X1 at *
   obtain ⟨g, hg⟩ : ∃ g, g = wr.heap.size := ⟨_, rfl⟩
   rw [← hg] at hxg ⊢
   have HX1 : Hid (RefSt w1.heap.size n g u7 gs rows (List.replicate n 0) X1) := ⟨hst0.out.below hb1, hxg, fun e => by have := (hst0.out.own.lt g e).2; omega, fun x hx e => by have := hst0.out.lt x hx; omega⟩
   have HXB := hI (hB.trans (hb1.mono hBs))
   have heg2 : w1.heap.size ≤ g := by omega
   clear hxg hb1 hg hst0 hB hBs
   obtain ⟨s1, hs1'⟩ := HX.out.get (show i < n by omega)
   obtain ⟨bl, off, hA, hbb, hg1⟩ := HX.out.at_ hs1'
   subst hA
   have HS1 := hI hs1'; clear hs1'
   have HG1 := hI hg1; clear hg1
   have HD1 : Hid ((lawsD xs)[i]? = some s1.l) := by show _ = _; rw [lawsD, List.getElem?_map, HS1.out]; rfl
   go_loopw [10] (fun vj wr => ∃ (j : Nat) (row : List Int), vj = .int .i64 j ∧ j ≤ n ∧ row.length = n ∧ Hid (RefSt w1.heap.size n g u7 gs rows row wr) ∧ Hid (rowM (lawsD xs) wss i = rowGo (lawsD xs) wss i (n - j) j row) ∧ Below w1.heap.size w1 wr) (fun vj _ => n - (intOf vj).toNat)
   case atStart => exact ⟨0, List.replicate n 0, rfl, Nat.zero_le _, by simp, HX1.out, (by show _ = _; unfold rowM; rw [HLN.out]; rfl), HXB.out⟩
   case round =>
    obtain ⟨j, row, rfl, hj, hrl, hst, hro, hB⟩ := hrel
    have hBs := hB.size
    by_cases hltj : j < n
    ·have hj1 : (j : Int) < (n : Int) := by omega
     obtain ⟨v, hv⟩ : ∃ v, row[j]? = some v := ⟨row[j]'(by omega), List.getElem?_eq_getElem _⟩
     obtain ⟨s2, hs2'⟩ := HX.out.get hltj
     obtain ⟨bl2, off2, hA2, _, hg2⟩ := HX.out.at_ hs2'
     obtain ⟨rfl, rfl⟩ : bl = bl2 ∧ off = off2 := by simpa using hA2
     clear hA2
     have HS2 := hI hs2'; clear hs2'
     have HG2 := hI hg2; clear hg2
     have HD2 : Hid ((lawsD xs)[j]? = some s2.l) := by show _ = _; rw [lawsD, List.getElem?_map, HS2.out]; rfl
     have HV := hI hv; clear hv
     by_cases hij : i = j
     ·subst hij
      have HN : Hid (rowM (lawsD xs) wss i = rowGo (lawsD xs) wss i (n - (i + 1)) (i + 1) row) := by show _ = _; rw [hro.out]; exact rowGo_skip hltj
      have hijb : ((i : Int) != (i : Int)) = false := by simp
      go_wp2_with fail
      go_loopw [11] (fun vk wr => vk = .int .i64 0 ∧ Hid (RefSt w1.heap.size n g u7 gs rows row wr) ∧ Below w1.heap.size w1 wr) (fun _ _ => 0)
      case atStart => exact ⟨rfl, hst.out, hB⟩
      case round =>
       obtain ⟨rfl, hst2, hB2⟩ := hrel
       by_cases hn0 : (0 : Int) < (n' : Int)
       ·go_wp2
        go_roundw
        case rel => exact ⟨i + 1, row, by go_num, by omega, hrl, hst2.out, HN.out, hB2⟩
        case measure => simp [intOf]; omega
       ·go_wp2
        go_roundw
        case rel => exact ⟨i + 1, row, by go_num, by omega, hrl, hst2.out, HN.out, hB2⟩
        case measure => simp [intOf]; omega
     ·have hij' : (j : Int) ≠ (i : Int) := by omega
      have hijb : ((j : Int) != (i : Int)) = true := by simpa using hij'
      go_wp2_with fail
      go_loopw [11] (fun vk wr => ∃ (k : Nat) (acc : Int), vk = .int .i64 k ∧ k ≤ n' ∧ Hid (RefSt w1.heap.size n g u7 gs rows (row.set j acc) wr) ∧ Hid (cellGo (lawsD xs) i j wss v = cellGo (lawsD xs) i j (wss.drop k) acc) ∧ Below w1.heap.size w1 wr) (fun vk _ => n' - (intOf vk).toNat)
      case atStart => exact ⟨0, v, rfl, Nat.zero_le _, by rw [set_self HV.out]; exact hst.out, rfl, hB⟩
      case round =>
       obtain ⟨k, acc, rfl, hk, hst2, hce, hB2⟩ := hrel
       have hB2s := hB2.size
       by_cases hltk : k < n'
       ·have hk1 : (k : Int) < (n' : Int) := by omega
        have HBW := hI (HBL.out _ hB2)
        obtain ⟨b', off', A1, n1, c1, x, rfl, hb', hcell, hxk, hwx⟩ := (HW.out.below HBW.out rr).at_ hltk
        have HWX := hI hwx; clear hwx
        have HXK := hI hxk; clear hxk
        have HCL := hI hcell
        have hg1' := range_below HG1.out HBW.out hbb
        have hg2' := range_below HG2.out HBW.out hbb
        go_wp2
        refine plain_region (fun W' => W'.rangeAt bl (off + i * 18) s1.cells ∧ W'.rangeAt bl (off + j * 18) s2.cells ∧ W'.cell? ⟨b', off' + k, none⟩ = some (.slice A1 n1 c1)) (by kernel_rfl) ⟨hg1', hg2', hcell⟩ (fun hHeld => ?_)
        (refine' anyT_tk 0 rfl ?_; (try simp only [Act.put, nA, nB, nC, nD, nE, nF])); (refine' anyT_tk 1 rfl ?_; (try simp only [Act.put, nA, nB, nC, nD, nE, nF])); (refine' anyT_tk 2 rfl ?_; (try simp only [Act.put, nA, nB, nC, nD, nE, nF]))
        (refine' anyT_take (i := 3) (v := lawV s1.l s1.a) rfl (by kernel_rfl) (by kernel_rfl) (by kernel_rfl) (by kernel_rfl) (fun _ _ _ h => h) (yields_lawM (by rfl) (.tmp 49) rfl bl (off + i * 18) s1 (by rfl) (fun _ h => h.1)) (by assumption) ?_; (try simp only [Act.put, nA, nB, nC, nD, nE, nF]))
        (refine' anyT_tk 4 rfl ?_; (try simp only [Act.put, nA, nB, nC, nD, nE, nF])); (refine' anyT_tk 5 rfl ?_; (try simp only [Act.put, nA, nB, nC, nD, nE, nF])); (refine' anyT_tk 6 rfl ?_; (try simp only [Act.put, nA, nB, nC, nD, nE, nF]))
        (refine' anyT_take (i := 7) (v := lawV s2.l s2.a) rfl (by kernel_rfl) (by kernel_rfl) (by kernel_rfl) (by kernel_rfl) (fun _ _ _ h => h) (yields_lawM (by rfl) (.tmp 53) rfl bl (off + j * 18) s2 (by rfl) (fun _ h => h.2.1)) (by assumption) ?_; (try simp only [Act.put, nA, nB, nC, nD, nE, nF]))
        (refine' anyT_tk 8 rfl ?_; (try simp only [Act.put, nA, nB, nC, nD, nE, nF])); (refine' anyT_tk 9 rfl ?_; (try simp only [Act.put, nA, nB, nC, nD, nE, nF])); (refine' anyT_tk 10 rfl ?_; (try simp only [Act.put, nA, nB, nC, nD, nE, nF])); (refine' anyT_tk 11 rfl ?_; (try simp only [Act.put, nA, nB, nC, nD, nE, nF]))
        (refine anyT_step (i := 12) (by kernel_rfl) rfl (fun K' hK' => ?_); simp only [List.getElem_toArray, List.getElem_cons_zero, List.getElem_cons_succ]; go_simp)
        clear hcell
        have hd5 : Below wr.heap.size wr wr.drew := (Below.refl wr.heap.size wr).drew
        have hB5d := HBW.out.trans (hd5.mono HBW.out.size)
        refine (r12Relation_c s1.l s1.a s2.l s2.a A1 n1 c1 x _ ((HX.out.2 s1 (List.mem_of_getElem? HS1.out)).below hB5d rr) ((HX.out.2 s2 (List.mem_of_getElem? HS2.out)).below hB5d rr) (HWX.out.below hd5 rr) (HU.out s1 (List.mem_of_getElem? HS1.out)) (HU.out s2 (List.mem_of_getElem? HS2.out)) (HWU.out x (List.mem_of_getElem? HXK.out))).mono ?_
        obtain ⟨r, hr⟩ : ∃ r, r = relM s1.l s2.l x := ⟨_, rfl⟩
        rw [← hr]
        rintro e w6 ⟨rfl, hb6'⟩
        have hb6 : Below wr.heap.size wr w6 := hd5.trans (hb6'.mono hd5.size)
        have hB6 := hB2.trans (hb6.mono hB2s)
        have hS6 : w6.rangeAt bl (off + i * 18) s1.cells ∧ w6.rangeAt bl (off + j * 18) s2.cells ∧ w6.cell? ⟨b', off' + k, none⟩ = some (.slice A1 n1 c1) := ⟨range_below HG1.out (HBL.out _ hB6) hbb, range_below HG2.out (HBL.out _ hB6) hbb, (hb6.cell (p := ⟨b', off' + k, none⟩) hb').trans HCL.out⟩
        have HST6 := hI (hst2.out.below hb6)
        have HR : Hid (relA (lawsD xs) i j x = r) := by show _ = _; rw [relA_of HD1.out HD2.out, hr]
        clear hr hb6' hd5 hB5d hb6
        refine hK' _ _ ⟨.inr hS6, fun _ => ?_⟩
        clear hK' K' hHeld hg1' hg2'
        (try simp only [Act.put, nA, nB, nC, nD, nE, nF])
        (refine' anyT_tk 13 rfl ?_; (try simp only [Act.put, nA, nB, nC, nD, nE, nF])); (refine' anyT_tk 14 rfl ?_; (try simp only [Act.put, nA, nB, nC, nD, nE, nF])); (refine' anyT_tk 15 rfl ?_; (try simp only [Act.put, nA, nB, nC, nD, nE, nF])); (refine' anyT_tk 16 rfl ?_; (try simp only [Act.put, nA, nB, nC, nD, nE, nF]))
        (refine anyT_step (i := 17) (by kernel_rfl) rfl (fun K' hK' => ?_); simp only [List.getElem_toArray, List.getElem_cons_zero, List.getElem_cons_succ]; go_simp)
        refine hK' _ _ ⟨.inl (by kernel_rfl), fun _ => anyT_done (by kernel_rfl) ?_ _⟩
        clear hK' K' hS6
        by_cases h4 : r.2 = 0
        case neg =>
         have h5 : (r.2 != 0) = true := by simpa using h4
         have HM' : Hid (tableM (lawsD xs) wss = (r.2, [])) := by
          have e1 : cellGo (lawsD xs) i j wss v = (r.2, 0) := by rw [hce.out, cellGo_bad HXK.out (by rw [HR.out]; exact h4), HR.out]
          have e2 : rowM (lawsD xs) wss i = (r.2, []) := by rw [hro.out, rowGo_bad hltj hij HV.out (by rw [e1]; exact h4), e1]
          show _ = _
          rw [hgo.out, tabGo_bad hlt (by rw [e2]; exact h4), e2]
         clear h4
         go_wp2
         go_ret2
         exact RetTbl.bad HM'.out (HBL.out _ hB6)
        have h5 : (r.2 != 0) = false := by simpa using h4
        have HCN : Hid (cellGo (lawsD xs) i j wss v = cellGo (lawsD xs) i j (wss.drop (k + 1)) (bits .or .i64 acc r.1)) := by show _ = _; rw [hce.out, cellGo_next HXK.out (by rw [HR.out]; exact h4), HR.out]
        clear h4
        have k2 : w6.cell? ⟨g, j, none⟩ = some (.int .i64 acc) := cntC_get HST6.out.hg (by rw [List.getElem?_set_self (by omega)])
        have k3 := frozen_of_row w6 g j _ _ HST6.out.hg
        have hgs := lt_of_block HST6.out.hg
        go_wp2
        have HST7 := HST6.out.set j (bits .or .i64 acc r.1)
        rw [List.set_set] at HST7
        have hB7 : Below w1.heap.size w1 (w6.setCell ⟨g, j, none⟩ (.int .i64 (bits .or .i64 acc r.1))) := hB6.setCell (p := ⟨g, j, none⟩) (by simp; omega) _
        go_roundw
        case rel => exact ⟨k + 1, _, by go_num, by omega, HST7, HCN.out, hB7⟩
        case measure => simp [intOf]; omega
       ·have hk1 : ¬ ((k : Int) < (n' : Int)) := by omega
        have e1 : cellGo (lawsD xs) i j wss v = (0, acc) := by rw [hce.out, List.drop_eq_nil_of_le (by rw [HW.out.len]; omega)]; rfl
        have HN : Hid (rowM (lawsD xs) wss i = rowGo (lawsD xs) wss i (n - (j + 1)) (j + 1) (row.set j acc)) := by show _ = _; rw [hro.out, rowGo_next hltj hij HV.out (by rw [e1]), e1]
        clear e1
        go_wp2
        go_roundw
        case rel => exact ⟨j + 1, row.set j acc, by go_num, by omega, by rw [List.length_set]; exact hrl, hst2.out, HN.out, hB2⟩
        case measure => simp [intOf]; omega
    ·have hj1 : ¬ ((j : Int) < (n : Int)) := by omega
     have e1 : rowM (lawsD xs) wss i = (0, row) := by rw [hro.out, show n - j = 0 by omega]; rfl
     have HN : Hid (tableM (lawsD xs) wss = tabGo (lawsD xs) wss (n - (i + 1)) (i + 1) (rows ++ [row])) := by show _ = _; rw [hgo.out, tabGo_next hlt (by rw [e1]), e1]
     clear e1
     have hg64 : gs.length ≤ 64 := by omega
     obtain ⟨A8, c8, hv8⟩ := own_form hst.out.st.own
     subst hv8
     go_wp2_with (at_builtin; refine append_row rfl (.tmp 74) (.tmp 76) rfl w1.heap.size (.slice A8 gs.length c8) gs.length (gs.map (rowV n)) rfl ?ho ⟨wr.heap.size, 0, none⟩ 1 (rowV n g) rfl (cell_one_new _ _ _) rfl ?hl ?hz ?hc)
     case ho => exact hst.out.st.own.alloc _
     case hl => omega
     case hz => first | omega | (simp; omega)
     case hc =>
      intro v' w9 hown9 hg9 hat9
      have hB9 : Below w1.heap.size w1 w9 := own_below (hB.alloc hB.size _) (hst.out.st.own.alloc _) hg9 rr (by simp; omega)
      have HST9 := hI (RefSt.push (hst.out.below ((Below.refl wr.heap.size wr).alloc rr _)) hrl hown9 hg9 (by simpa using hat9))
      clear hown9 hg9 hat9
      go_wp2
      go_roundw
      case rel => exact ⟨i + 1, gs ++ [g], rows ++ [row], by go_num, by omega, by rw [List.length_append, HGL.out]; rfl, HST9.out, HN.out, hB9⟩
      case measure => simp [intOf]; omega
  ·have hi1 : ¬ ((i : Int) < (n : Int)) := by omega
   have HM' : Hid (tableM (lawsD xs) wss = (0, rows)) := by show _ = _; rw [hgo.out, show n - i = 0 by omega]; rfl
   obtain ⟨A9, c9, hv9⟩ := own_form hst0.out.own
   subst hv9
   go_wp2
   go_ret2
   refine ⟨A9, _, c9, by rw [HM'.out]; rfl, ?_, HBL.out _ hB⟩
   rw [HM'.out]
   exact ⟨gs, Cells.of_own hst0.out.own (by decide), hst0.out.hr⟩
end Go.Proofs.YtcpcojgmmpnkoaaGreatDoor

/-
  The relations of all laws (interplay.Table), in plain words; rows of numbers.
  interplay.Table.
-/
import Derived.Test.YtcpcojgmmpnkoaaGreatDoorG41
import Derived.Test.YtcpcojgmmpnkoaaGreatDoorG16
import Derived.Test.YtcpcojgmmpnkoaaGreatDoorG44
import Derived.Test.YtcpcojgmmpnkoaaGreatDoorG18
import Derived.Test.YtcpcojgmmpnkoaaGreatDoorG37
set_option linter.unusedVariables false
set_option linter.unusedSimpArgs false
set_option maxRecDepth 100000
set_option maxHeartbeats 4000000
namespace Go.Proofs.YtcpcojgmmpnkoaaGreatDoor
open Go.RowKit Go.Shelf
def relA (ls : List LawD) (i j : Nat) (ws : List Snd) : Int × Int :=
 match ls[i]?, ls[j]? with
 | some a, some b => relM a b ws
 | _, _ => (0, 0)
theorem relA_of {ls : List LawD} {i j : Nat} {a b : LawD} (h1 : ls[i]? = some a) (h2 : ls[j]? = some b) (ws : List Snd) : relA ls i j ws = relM a b ws := by unfold relA; rw [h1, h2]
def cellGo (ls : List LawD) (i j : Nat) : List (List Snd) → Int → Int × Int
 | [], acc => (0, acc)
 | ws :: r, acc => if (relA ls i j ws).2 ≠ 0 then ((relA ls i j ws).2, 0) else cellGo ls i j r (bits .or .i64 acc (relA ls i j ws).1)
def rowGo (ls : List LawD) (wss : List (List Snd)) (i : Nat) : Nat → Nat → List Int → Int × List Int
 | 0, _, row => (0, row)
 | f + 1, j, row => if i = j then rowGo ls wss i f (j + 1) row
  else if (cellGo ls i j wss (row.getD j 0)).1 ≠ 0 then ((cellGo ls i j wss (row.getD j 0)).1, []) else rowGo ls wss i f (j + 1) (row.set j (cellGo ls i j wss (row.getD j 0)).2)
def rowM (ls : List LawD) (wss : List (List Snd)) (i : Nat) : Int × List Int := rowGo ls wss i ls.length 0 (List.replicate ls.length 0)
def tabGo (ls : List LawD) (wss : List (List Snd)) : Nat → Nat → List (List Int) → Int × List (List Int)
 | 0, _, dn => (0, dn)
 | f + 1, i, dn => if (rowM ls wss i).1 ≠ 0 then ((rowM ls wss i).1, []) else tabGo ls wss f (i + 1) (dn ++ [(rowM ls wss i).2])
def tableM (ls : List LawD) (wss : List (List Snd)) : Int × List (List Int) :=
 if chkM ls wss ≠ 0 then (chkM ls wss, []) else tabGo ls wss ls.length 0 []
theorem cellGo_bad {ls : List LawD} {i j k : Nat} {wss : List (List Snd)} {ws : List Snd} {acc : Int} (h : wss[k]? = some ws) (h0 : (relA ls i j ws).2 ≠ 0) : cellGo ls i j (wss.drop k) acc = ((relA ls i j ws).2, 0) := by
 obtain ⟨hk, hk'⟩ := List.getElem?_eq_some_iff.1 h
 rw [List.drop_eq_getElem_cons hk, hk', cellGo, if_pos h0]
theorem cellGo_next {ls : List LawD} {i j k : Nat} {wss : List (List Snd)} {ws : List Snd} {acc : Int} (h : wss[k]? = some ws) (h0 : (relA ls i j ws).2 = 0) : cellGo ls i j (wss.drop k) acc = cellGo ls i j (wss.drop (k + 1)) (bits .or .i64 acc (relA ls i j ws).1) := by
 obtain ⟨hk, hk'⟩ := List.getElem?_eq_some_iff.1 h
 rw [List.drop_eq_getElem_cons hk, hk', cellGo, if_neg (by simpa using h0)]
theorem rowGo_skip {ls : List LawD} {wss : List (List Snd)} {n j : Nat} {row : List Int} (hj : j < n) : rowGo ls wss j (n - j) j row = rowGo ls wss j (n - (j + 1)) (j + 1) row := by
 rw [show n - j = (n - j - 1) + 1 by omega, rowGo, if_pos rfl, show n - j - 1 = n - (j + 1) by omega]
theorem rowGo_bad {ls : List LawD} {wss : List (List Snd)} {n i j : Nat} {row : List Int} {v : Int} (hj : j < n) (hij : i ≠ j) (hv : row[j]? = some v) (h : (cellGo ls i j wss v).1 ≠ 0) : rowGo ls wss i (n - j) j row = ((cellGo ls i j wss v).1, []) := by
 have hg : row.getD j 0 = v := by simp [hv]
 rw [show n - j = (n - j - 1) + 1 by omega, rowGo, if_neg hij, hg, if_pos h]
theorem rowGo_next {ls : List LawD} {wss : List (List Snd)} {n i j : Nat} {row : List Int} {v : Int} (hj : j < n) (hij : i ≠ j) (hv : row[j]? = some v) (h : (cellGo ls i j wss v).1 = 0) : rowGo ls wss i (n - j) j row = rowGo ls wss i (n - (j + 1)) (j + 1) (row.set j (cellGo ls i j wss v).2) := by
 have hg : row.getD j 0 = v := by simp [hv]
 rw [show n - j = (n - j - 1) + 1 by omega, rowGo, if_neg hij, hg, if_neg (by simpa using h), show n - j - 1 = n - (j + 1) by omega]
theorem tabGo_bad {ls : List LawD} {wss : List (List Snd)} {n i : Nat} {dn : List (List Int)} (hi : i < n) (h : (rowM ls wss i).1 ≠ 0) : tabGo ls wss (n - i) i dn = ((rowM ls wss i).1, []) := by
 rw [show n - i = (n - i - 1) + 1 by omega, tabGo, if_pos h]
theorem tabGo_next {ls : List LawD} {wss : List (List Snd)} {n i : Nat} {dn : List (List Int)} (hi : i < n) (h : (rowM ls wss i).1 = 0) : tabGo ls wss (n - i) i dn = tabGo ls wss (n - (i + 1)) (i + 1) (dn ++ [(rowM ls wss i).2]) := by
 rw [show n - i = (n - i - 1) + 1 by omega, tabGo, if_neg (by simpa using h), show n - i - 1 = n - (i + 1) by omega]
def rowV (n g : Nat) : Value := .slice (some ⟨g, 0, none⟩) n n
def RowsAt (w : World) (n : Nat) (gs : List Nat) (rows : List (List Int)) : Prop :=
 gs.length = rows.length ∧ ∀ (k g : Nat) (r : List Int), gs[k]? = some g → rows[k]? = some r → r.length = n ∧ w.heap[g]? = some (.cells (cntC r) 3 (0, 0))
theorem RowsAt.nil (w : World) (n : Nat) : RowsAt w n [] [] := ⟨rfl, fun k g r h _ => by simp at h⟩
theorem RowsAt.below {w w' : World} {n : Nat} {gs : List Nat} {rows : List (List Int)} (h : RowsAt w n gs rows) {B : Nat} (hb : Below B w w') (hB : w.heap.size ≤ B) : RowsAt w' n gs rows :=
 ⟨h.1, fun k g r h1 h2 => by
  obtain ⟨h3, h4⟩ := h.2 k g r h1 h2
  exact ⟨h3, (hb.block g (Nat.lt_of_lt_of_le (lt_of_block h4) hB)).trans h4⟩⟩
theorem RowsAt.keep {w w' : World} {n : Nat} {gs : List Nat} {rows : List (List Int)} (h : RowsAt w n gs rows) {S : Nat → Prop} (hk : Keep S w w') (hS : ∀ g ∈ gs, ¬ S g) : RowsAt w' n gs rows :=
 ⟨h.1, fun k g r h1 h2 => by
  obtain ⟨h3, h4⟩ := h.2 k g r h1 h2
  exact ⟨h3, (hk.block g (lt_of_block h4) (hS g (List.mem_of_getElem? h1))).trans h4⟩⟩
theorem RowsAt.snoc {w : World} {n : Nat} {gs : List Nat} {rows : List (List Int)} (h : RowsAt w n gs rows) {g : Nat} {r : List Int} (hr : r.length = n) (hg : w.heap[g]? = some (.cells (cntC r) 3 (0, 0))) : RowsAt w n (gs ++ [g]) (rows ++ [r]) := by
 refine ⟨by simp [h.1], fun k g' r' h1 h2 => ?_⟩
 rcases Nat.lt_trichotomy k gs.length with hk | hk | hk
 ·rw [List.getElem?_append_left hk] at h1
  rw [List.getElem?_append_left (by rw [← h.1]; exact hk)] at h2
  exact h.2 k g' r' h1 h2
 ·subst hk
  rw [List.getElem?_append_right rr] at h1
  rw [List.getElem?_append_right (Nat.le_of_eq h.1.symm), ← h.1] at h2
  simp at h1 h2
  subst h1 h2
  exact ⟨hr, hg⟩
 ·rw [List.getElem?_eq_none (by simp; omega)] at h1; cases h1
def IsTbl (w : World) (A : Option Addr) (m c n : Nat) (rows : List (List Int)) : Prop :=
 ∃ gs : List Nat, Cells w A m c 1 (gs.map (rowV n)) ∧ RowsAt w n gs rows
theorem IsTbl.below {w w' : World} {A : Option Addr} {m c n : Nat} {rows : List (List Int)} (h : IsTbl w A m c n rows) {B : Nat} (hb : Below B w w') (hB : w.heap.size ≤ B) : IsTbl w' A m c n rows := by
 obtain ⟨gs, h1, h2⟩ := h
 exact ⟨gs, Cells.below h1 hb hB, h2.below hb hB⟩
theorem IsTbl.len {w : World} {A : Option Addr} {m c n : Nat} {rows : List (List Int)} (h : IsTbl w A m c n rows) : rows.length = m := by
 obtain ⟨gs, h1, h2⟩ := h
 have h3 := h1.1
 simp at h3
 rw [← h2.1, h3]
theorem IsTbl.max {w : World} {A : Option Addr} {m c n : Nat} {rows : List (List Int)} (h : IsTbl w A m c n rows) : m ≤ c ∧ c ≤ 9223372036854775807 := by
 obtain ⟨gs, h1, _⟩ := h
 have h1' := h1.2.1; have h2 := h1.2.2.1; unfold maxLen at h2; omega
theorem IsTbl.at_ {w : World} {A : Option Addr} {m c n : Nat} {rows : List (List Int)} (h : IsTbl w A m c n rows) (hn : n ≤ maxLen) {k : Nat} (hk : k < m) :
  ∃ b off g r, A = some ⟨b, off, none⟩ ∧ b < w.heap.size ∧ w.cell? ⟨b, off + k, none⟩ = some (.slice (some ⟨g, 0, none⟩) n n) ∧ rows[k]? = some r ∧ IsInts w (some ⟨g, 0, none⟩) n n r := by
 have hl := h.len
 obtain ⟨gs, h1, h2⟩ := h
 obtain ⟨b, off, v, hA, hb, hv, hcc⟩ := h1.at1 hk
 rw [List.getElem?_map] at hv
 cases hp : gs[k]? with
 | none => rw [hp] at hv; cases hv
 | some g =>
  rw [hp] at hv
  obtain rfl : rowV n g = v := by simpa using hv
  obtain ⟨r, hr⟩ : ∃ r, rows[k]? = some r := ⟨rows[k]'(by omega), List.getElem?_eq_getElem _⟩
  obtain ⟨h3, h4⟩ := h2.2 k g r hp hr
  exact ⟨b, off, g, r, hA, hb, hcc, hr, ints_row h4 h3 hn⟩
def RetTbl (w : World) (n : Nat) (r : Int × List (List Int)) (e : Ending) (w' : World) : Prop :=
 ∃ A m c, e = .returned (.tuple #[.slice A m c, .int .i64 r.1]) ∧ IsTbl w' A m c n r.2 ∧ Below w.heap.size w w'
theorem RetTbl.bad {w w' : World} {n : Nat} {r : Int × List (List Int)} {er : Int} (h : r = (er, [])) (hb : Below w.heap.size w w') : RetTbl w n r (.returned (.tuple #[.slice none 0 0, .int .i64 er])) w' := by
 subst h
 exact ⟨none, 0, 0, rfl, ⟨[], Cells.nil _ _, RowsAt.nil _ _⟩, hb⟩
def rowsC (n : Nat) (gs : List Nat) : Array Value := (gs.map (rowV n) ++ List.replicate (n - gs.length) (Value.slice none 0 0)).toArray
theorem made_rows (n : Nat) : madeCells #[Value.slice none 0 0] n = rowsC n [] := by
 apply Array.ext
 ·simp [size_madeCells, rowsC]
 ·intro i h1 h2
  simp [madeCells, Nat.mod_one, rowsC]
theorem rowsC_set {n g : Nat} {gs : List Nat} (h : gs.length < n) : (rowsC n gs).setIfInBounds gs.length (rowV n g) = rowsC n (gs ++ [g]) := by
 unfold rowsC
 rw [List.setIfInBounds_toArray, List.set_append_right _ _ (by simp), List.length_map, Nat.sub_self, List.length_append, List.length_singleton]
 rw [show n - gs.length = (n - (gs.length + 1)) + 1 by omega, List.replicate_succ, List.set_cons_zero]
 simp
theorem rowsC_old {w : World} {g0 n : Nat} {gs : List Nat} {t : TypeId} (h : w.heap[g0]? = some (.cells (rowsC n gs) t (0, 0))) (hl : gs.length < n) : w.cell? ⟨g0, gs.length, none⟩ = some (.slice none 0 0) :=
 cell_at_heap h (by unfold rowsC; rw [List.getElem?_toArray, List.getElem?_append_right (by simp), List.length_map, Nat.sub_self, List.getElem?_replicate, if_pos (by omega)])
theorem rowsC_last {w : World} {g0 n g : Nat} {gs : List Nat} {t : TypeId} (h : w.heap[g0]? = some (.cells (rowsC n (gs ++ [g])) t (0, 0))) : w.cell? ⟨g0, gs.length, none⟩ = some (.slice (some ⟨g, 0, none⟩) n n) :=
 cell_at_heap h (by unfold rowsC; rw [List.getElem?_toArray, List.getElem?_append_left (by simp)]; simp [rowV])
theorem rowsC_tab {w : World} {g0 n : Nat} {gs : List Nat} {rows : List (List Int)} {t : TypeId} (h : w.heap[g0]? = some (.cells (rowsC n gs) t (0, 0))) (hl : gs.length = n) (hn : n ≤ maxLen) (hr : RowsAt w n gs rows) : IsTbl w (some ⟨g0, 0, none⟩) n n n rows :=
 ⟨gs, ⟨by simpa using hl, rr, hn, (fun h => by cases h), fun _ => ⟨g0, 0, rfl, lt_of_block h, fun j v hv => by
  rw [Nat.zero_add]
  exact cell_at_heap h (by unfold rowsC; rw [List.getElem?_toArray, List.getElem?_append_left (List.getElem?_eq_some_iff.1 hv).1]; exact hv)⟩⟩, hr⟩
theorem set_self {l : List Int} {j : Nat} {v : Int} (h : l[j]? = some v) : l.set j v = l := by
 apply List.ext_getElem?
 intro k
 rw [List.getElem?_set]
 split
 ·rename_i hk; subst hk; rw [if_pos (List.getElem?_eq_some_iff.1 h).1, h]
 ·rfl
theorem rowI_info : (Tryz.prog.info? 43).map (fun i => (i.zero, i.size, i.bytes)) = some (some (.slice none 0 0), 1, 24) := by kernel_rfl
structure TabSt (n g0 g : Nat) (gs : List Nat) (rows : List (List Int)) (row : List Int) (w : World) : Prop where
 h0 : w.heap[g0]? = some (.cells (rowsC n (gs ++ [g])) 43 (0, 0))
 hg : w.heap[g]? = some (.cells (cntC row) 3 (0, 0))
 hr : RowsAt w n gs rows
 ne : g0 ≠ g ∧ ∀ x ∈ gs, x ≠ g
theorem TabSt.below {n g0 g : Nat} {gs : List Nat} {rows : List (List Int)} {row : List Int} {w w' : World} (h : TabSt n g0 g gs rows row w) (hb : Below w.heap.size w w') : TabSt n g0 g gs rows row w' :=
 ⟨(hb.block _ (lt_of_block h.h0)).trans h.h0, (hb.block _ (lt_of_block h.hg)).trans h.hg, h.hr.below hb rr, h.ne⟩
theorem TabSt.set {n g0 g : Nat} {gs : List Nat} {rows : List (List Int)} {row : List Int} {w : World} (h : TabSt n g0 g gs rows row w) (j : Nat) (x : Int) : TabSt n g0 g gs rows (row.set j x) (w.setCell ⟨g, j, none⟩ (.int .i64 x)) := by
 have hk : Keep (fun k => k = g) w (w.setCell ⟨g, j, none⟩ (.int .i64 x)) := (Keep.refl (fun k => k = g) w).setCell (p := ⟨g, j, none⟩) rfl _
 refine ⟨(hk.block _ (lt_of_block h.h0) h.ne.1).trans h.h0, ?_, h.hr.keep hk h.ne.2, h.ne⟩
 rw [← cntC_set]; exact heap_setCell_same h.hg
theorem table12_c (A : Option Addr) (n c : Nat) (xs : List LawR) (A' : Option Addr) (n' c' : Nat) (wss : List (List Snd)) (w : World) (hx : IsLaws w A n c xs) (hw : IsWords w A' n' c' wss) (hT : TabOK w) :
  Calls Tryz.prog 39 #[.slice A n c, .slice A' n' c'] w (RetTbl w n (tableM (lawsD xs) wss)) := by
 have hmx := hx.max
 have hmw := hw.max
 have HX := hI hx; clear hx
 have HW := hI hw; clear hw
 have HT := hI hT; clear hT
 have HLN : Hid ((lawsD xs).length = n) := by show (lawsD xs).length = n; rw [lawsD, List.length_map]; exact HX.out.len
 obtain ⟨er, her⟩ : ∃ er, er = chkM (lawsD xs) wss := ⟨_, rfl⟩
 have HER := hI her
 go_enter Tryz.func39, Tryz.ntmps39
 go_wp2_with fail
 refine (check12_c A n c xs A' n' c' wss w HX.out HW.out).mono ?_
 rintro e w1 ⟨rfl, hB1⟩
 rw [← her]
 clear her
 have HB1 := hI hB1; clear hB1
 by_cases h0 : er = 0
 case neg =>
  have h1 : (er != 0) = true := by simpa using h0
  have HM : Hid (tableM (lawsD xs) wss = (er, [])) := by show _ = _; unfold tableM; rw [← HER.out, if_pos h0]
  clear h0
  go_wp2
  go_ret2
  exact RetTbl.bad HM.out HB1.out
 have h1 : (er != 0) = false := by simpa using h0
 have hcw := chk_words (ls := lawsD xs) (wss := wss) (by rw [← HER.out]; exact h0)
 have hl64 := lawsE_len hcw.1
 rw [HLN.out] at hl64
 have hw256 := hcw.2.1
 rw [HW.out.len] at hw256
 have HM : Hid (tableM (lawsD xs) wss = tabGo (lawsD xs) wss n 0 []) := by show tableM _ _ = _; unfold tableM; rw [← HER.out, if_neg (by simpa using h0), HLN.out]
 clear h0 hcw
 have hmk0 := fun w => run_make_row' (P := Tryz.prog) 62 43 (.slice none 0 0) 24 Tryz.underlying62 rowI_info rfl .i64 .i64 n (by omega) (by omega) w
 go_wp2_with fail
 clear hmk0
 rw [made_rows]
 have kg : (w1.alloc (.cells (rowsC n []) 43)).heap[w1.heap.size]? = some (.cells (rowsC n []) 43 (0, 0)) := hpt
 have kB : Below w1.heap.size w1 (w1.alloc (.cells (rowsC n []) 43)) := bel
 generalize (w1.alloc (.cells (rowsC n []) 43)) = V0 at *
 obtain ⟨g0, eg⟩ : ∃ g, g = w1.heap.size := ⟨_, rfl⟩
 rw [← eg] at kg ⊢
 have heg : w1.heap.size ≤ g0 := Nat.le_of_eq eg.symm
 clear eg
 have KG := hI kg; clear kg
 have KB := hI kB; clear kB
 have hmk := fun w => run_make_row' (P := Tryz.prog) 43 3 (.int .i64 0) 8 Tryz.underlying43 int_info rfl .i64 .i64 n (by omega) (by omega) w
 have hnm : n ≤ maxLen := by unfold maxLen; omega
 have HBL : Hid (∀ W, Below w1.heap.size w1 W → Below w.heap.size w W) := fun W hW => HB1.out.trans (hW.mono HB1.out.size)
 go_loopw [25] (fun vi wr => ∃ (i : Nat) (gs : List Nat) (rows : List (List Int)), vi = .int .i64 i ∧ i ≤ n ∧ gs.length = i ∧ Hid (wr.heap[g0]? = some (.cells (rowsC n gs) 43 (0, 0))) ∧ Hid (RowsAt wr n gs rows) ∧ Hid (∀ x ∈ gs, x ≠ g0) ∧ Hid (tableM (lawsD xs) wss = tabGo (lawsD xs) wss (n - i) i rows) ∧ Below w1.heap.size w1 wr) (fun vi _ => n - (intOf vi).toNat)
 case atStart => exact ⟨0, [], [], rfl, Nat.zero_le _, rfl, KG.out, RowsAt.nil _ _, (fun x hx => by cases hx), HM.out, KB.out⟩
 case round =>
  obtain ⟨i, gs, rows, rfl, hi, hgl, hh0, hrw, hnk, hgo, hB⟩ := hrel
  have hBs := hB.size
  by_cases hlt : i < n
  ·have hi1 : (i : Int) < (n : Int) := by omega
   have hlt0 := lt_of_block hh0.out
   have hne : g0 ≠ wr.heap.size := by omega
   have hold : wr.cell? ⟨g0, i, none⟩ = some (.slice none 0 0) := by rw [← hgl]; exact rowsC_old hh0.out (by omega)
   have hfz : wr.frozen? ⟨g0, i, none⟩ = false := frozen_of_row _ g0 i _ _ hh0.out
   have hmk1 := hmk wr
   go_wp2_with fail
   clear hmk1 hold hfz
   rw [made_cnt]
   have hx0 : ((wr.setCell ⟨g0, i, none⟩ (.slice (some ⟨wr.heap.size, 0, none⟩) n n)).alloc (.cells (cntC (List.replicate n 0)) 3)).heap[g0]? = some (.cells (rowsC n (gs ++ [wr.heap.size])) 43 (0, 0)) := by
    have h := heap_setCell_same (o := i) (u := rowV n wr.heap.size) hh0.out
    rw [show (rowsC n gs).setIfInBounds i (rowV n wr.heap.size) = rowsC n (gs ++ [wr.heap.size]) by rw [← hgl]; exact rowsC_set (by omega)] at h
    exact (heap_old_at (by simp; omega)).trans h
   have hxg : ((wr.setCell ⟨g0, i, none⟩ (.slice (some ⟨wr.heap.size, 0, none⟩) n n)).alloc (.cells (cntC (List.replicate n 0)) 3)).heap[wr.heap.size]? = some (.cells (cntC (List.replicate n 0)) 3 (0, 0)) := heap_new_at (by simp)
   have hxk : Keep (fun k => k = g0) wr ((wr.setCell ⟨g0, i, none⟩ (.slice (some ⟨wr.heap.size, 0, none⟩) n n)).alloc (.cells (cntC (List.replicate n 0)) 3)) := ((Keep.refl (fun k => k = g0) wr).setCell (p := ⟨g0, i, none⟩) rfl _).alloc _
   have hxB : Below w1.heap.size w1 ((wr.setCell ⟨g0, i, none⟩ (.slice (some ⟨wr.heap.size, 0, none⟩) n n)).alloc (.cells (cntC (List.replicate n 0)) 3)) := (hB.setCell (p := ⟨g0, i, none⟩) (by simp; omega) _).alloc (by simp; omega) _
   generalize ((wr.setCell ⟨g0, i, none⟩ (.slice (some ⟨wr.heap.size, 0, none⟩) n n)).alloc (.cells (cntC (List.replicate n 0)) 3)) = X1 at *
   obtain ⟨g, hg⟩ : ∃ g, g = wr.heap.size := ⟨_, rfl⟩
   rw [← hg] at hx0 hxg hne ⊢
   have heg2 : w1.heap.size ≤ g := by omega
   have hrow1 := hrw.out.keep hxk (fun x hx e => by
    obtain ⟨k, hk⟩ := List.getElem?_of_mem hx
    exact absurd e (hnk.out x hx))
   have hgx : ∀ x ∈ gs, x ≠ g := fun x hx e => by
    obtain ⟨k, hk⟩ := List.getElem?_of_mem hx
    obtain ⟨r, hr⟩ : ∃ r, rows[k]? = some r := ⟨rows[k]'(by rw [← hrw.out.1]; exact (List.getElem?_eq_some_iff.1 hk).1), List.getElem?_eq_getElem _⟩
    have := lt_of_block (hrw.out.2 k x r hk hr).2
    omega
   have HX1 : Hid (TabSt n g0 g gs rows (List.replicate n 0) X1) := ⟨hx0, hxg, hrow1, hne, hgx⟩
   have HXB := hI hxB
   have hs1 : g0 < g := by omega
   have HG0 : Hid (∀ x ∈ gs, x ≠ g0) := hnk.out
   clear hx0 hxg hxk hxB hrow1 hgx hg hlt0 hB hBs hh0 hrw
   obtain ⟨s1, hs1'⟩ := HX.out.get (show i < n by omega)
   obtain ⟨bl, off, hA, hbb, hg1⟩ := HX.out.at_ hs1'
   subst hA
   have HS1 := hI hs1'; clear hs1'
   have HG1 := hI hg1; clear hg1
   have HD1 : Hid ((lawsD xs)[i]? = some s1.l) := by show _ = _; rw [lawsD, List.getElem?_map, HS1.out]; rfl
   go_loopw [36] (fun vj wr => ∃ (j : Nat) (row : List Int), vj = .int .i64 j ∧ j ≤ n ∧ row.length = n ∧ Hid (TabSt n g0 g gs rows row wr) ∧ Hid (rowM (lawsD xs) wss i = rowGo (lawsD xs) wss i (n - j) j row) ∧ Below w1.heap.size w1 wr) (fun vj _ => n - (intOf vj).toNat)
   case atStart => exact ⟨0, List.replicate n 0, rfl, Nat.zero_le _, by simp, HX1.out, (by show _ = _; unfold rowM; rw [HLN.out]; rfl), HXB.out⟩
   case round =>
    obtain ⟨j, row, rfl, hj, hrl, hst, hro, hB⟩ := hrel
    have hBs := hB.size
    by_cases hltj : j < n
    ·have hj1 : (j : Int) < (n : Int) := by omega
     by_cases hij : i = j
     ·subst hij
      have HN : Hid (rowM (lawsD xs) wss i = rowGo (lawsD xs) wss i (n - (i + 1)) (i + 1) row) := by show _ = _; rw [hro.out]; exact rowGo_skip hltj
      go_wp2
      go_roundw
      case rel => exact ⟨i + 1, row, by go_num, by omega, hrl, hst.out, HN.out, hB⟩
      case measure => simp [intOf]; omega
     ·have hij' : (i : Int) ≠ (j : Int) := by omega
      have hijb : ((i : Int) == (j : Int)) = false := by simpa using hij'
      obtain ⟨v, hv⟩ : ∃ v, row[j]? = some v := ⟨row[j]'(by omega), List.getElem?_eq_getElem _⟩
      obtain ⟨s2, hs2'⟩ := HX.out.get hltj
      obtain ⟨bl2, off2, hA2, _, hg2⟩ := HX.out.at_ hs2'
      obtain ⟨rfl, rfl⟩ : bl = bl2 ∧ off = off2 := by simpa using hA2
      clear hA2
      have HS2 := hI hs2'; clear hs2'
      have HG2 := hI hg2; clear hg2
      have HD2 : Hid ((lawsD xs)[j]? = some s2.l) := by show _ = _; rw [lawsD, List.getElem?_map, HS2.out]; rfl
      have HV := hI hv; clear hv
      go_wp2_with fail
      go_loopw [44] (fun vk wr => ∃ (k : Nat) (acc : Int), vk = .int .i64 k ∧ k ≤ n' ∧ Hid (TabSt n g0 g gs rows (row.set j acc) wr) ∧ Hid (cellGo (lawsD xs) i j wss v = cellGo (lawsD xs) i j (wss.drop k) acc) ∧ Below w1.heap.size w1 wr) (fun vk _ => n' - (intOf vk).toNat)
      case atStart => exact ⟨0, v, rfl, Nat.zero_le _, by rw [set_self HV.out]; exact hst.out, rfl, hB⟩
      case round =>
       obtain ⟨k, acc, rfl, hk, hst2, hce, hB2⟩ := hrel
       have hB2s := hB2.size
       by_cases hltk : k < n'
       ·have hk1 : (k : Int) < (n' : Int) := by omega
        have HBW := hI (HBL.out _ hB2)
        obtain ⟨b', off', A1, n1, c1, x, rfl, hb', hcell, hxk, hwx⟩ := (HW.out.below HBW.out rr).at_ hltk
        have HWX := hI hwx; clear hwx
        have HXK := hI hxk; clear hxk
        have hg1' := range_below HG1.out HBW.out hbb
        have hg2' := range_below HG2.out HBW.out hbb
        go_wp2
        clear hcell
        refine plain_region (fun W' => W'.rangeAt bl (off + i * 18) s1.cells ∧ W'.rangeAt bl (off + j * 18) s2.cells) (by kernel_rfl) ⟨hg1', hg2'⟩ (fun hHeld => ?_)
        (refine' anyT_tk 0 rfl ?_; (try simp only [Act.put, nA, nB, nC, nD, nE, nF])); (refine' anyT_tk 1 rfl ?_; (try simp only [Act.put, nA, nB, nC, nD, nE, nF])); (refine' anyT_tk 2 rfl ?_; (try simp only [Act.put, nA, nB, nC, nD, nE, nF]))
        (refine' anyT_take (i := 3) (v := lawV s1.l s1.a) rfl (by kernel_rfl) (by kernel_rfl) (by kernel_rfl) (by kernel_rfl) (fun _ _ _ h => h) (yields_lawM (by rfl) (.tmp 51) rfl bl (off + i * 18) s1 (by rfl) (fun _ h => h.1)) (by assumption) ?_; (try simp only [Act.put, nA, nB, nC, nD, nE, nF]))
        (refine' anyT_tk 4 rfl ?_; (try simp only [Act.put, nA, nB, nC, nD, nE, nF])); (refine' anyT_tk 5 rfl ?_; (try simp only [Act.put, nA, nB, nC, nD, nE, nF])); (refine' anyT_tk 6 rfl ?_; (try simp only [Act.put, nA, nB, nC, nD, nE, nF]))
        (refine' anyT_take (i := 7) (v := lawV s2.l s2.a) rfl (by kernel_rfl) (by kernel_rfl) (by kernel_rfl) (by kernel_rfl) (fun _ _ _ h => h) (yields_lawM (by rfl) (.tmp 55) rfl bl (off + j * 18) s2 (by rfl) (fun _ h => h.2)) (by assumption) ?_; (try simp only [Act.put, nA, nB, nC, nD, nE, nF]))
        (refine' anyT_tk 8 rfl ?_; (try simp only [Act.put, nA, nB, nC, nD, nE, nF]))
        (refine anyT_step (i := 9) (by kernel_rfl) rfl (fun K' hK' => ?_); simp only [List.getElem_toArray, List.getElem_cons_zero, List.getElem_cons_succ]; go_simp)
        have hd5 : Below wr.heap.size wr wr.drew := (Below.refl wr.heap.size wr).drew
        have hB5d := HBW.out.trans (hd5.mono HBW.out.size)
        refine (relation_c s1.l s1.a s2.l s2.a A1 n1 c1 x _ ((HX.out.2 s1 (List.mem_of_getElem? HS1.out)).below hB5d rr) ((HX.out.2 s2 (List.mem_of_getElem? HS2.out)).below hB5d rr) (HWX.out.below hd5 rr) (HT.out.below hB5d rr)).mono ?_
        obtain ⟨r, hr⟩ : ∃ r, r = relM s1.l s2.l x := ⟨_, rfl⟩
        rw [← hr]
        rintro e w6 ⟨rfl, hb6'⟩
        have hb6 : Below wr.heap.size wr w6 := hd5.trans (hb6'.mono hd5.size)
        have hB6 := hB2.trans (hb6.mono hB2s)
        have hS6 : w6.rangeAt bl (off + i * 18) s1.cells ∧ w6.rangeAt bl (off + j * 18) s2.cells := ⟨range_below HG1.out (HBL.out _ hB6) hbb, range_below HG2.out (HBL.out _ hB6) hbb⟩
        have HST6 := hI (hst2.out.below hb6)
        have HR : Hid (relA (lawsD xs) i j x = r) := by show _ = _; rw [relA_of HD1.out HD2.out, hr]
        clear hr hb6' hd5 hB5d hb6
        refine hK' _ _ ⟨.inr hS6, fun _ => ?_⟩
        clear hK' K' hHeld hg1' hg2'
        (try simp only [Act.put, nA, nB, nC, nD, nE, nF])
        (refine' anyT_tk 10 rfl ?_; (try simp only [Act.put, nA, nB, nC, nD, nE, nF])); (refine' anyT_tk 11 rfl ?_; (try simp only [Act.put, nA, nB, nC, nD, nE, nF])); (refine' anyT_tk 12 rfl ?_; (try simp only [Act.put, nA, nB, nC, nD, nE, nF])); (refine' anyT_tk 13 rfl ?_; (try simp only [Act.put, nA, nB, nC, nD, nE, nF]))
        (refine anyT_step (i := 14) (by kernel_rfl) rfl (fun K' hK' => ?_); simp only [List.getElem_toArray, List.getElem_cons_zero, List.getElem_cons_succ]; go_simp)
        refine hK' _ _ ⟨.inl (by kernel_rfl), fun _ => anyT_done (by kernel_rfl) ?_ _⟩
        clear hK' K' hS6
        by_cases h4 : r.2 = 0
        case neg =>
         have h5 : (r.2 != 0) = true := by simpa using h4
         have HM' : Hid (tableM (lawsD xs) wss = (r.2, [])) := by
          have e1 : cellGo (lawsD xs) i j wss v = (r.2, 0) := by rw [hce.out, cellGo_bad HXK.out (by rw [HR.out]; exact h4), HR.out]
          have e2 : rowM (lawsD xs) wss i = (r.2, []) := by rw [hro.out, rowGo_bad hltj hij HV.out (by rw [e1]; exact h4), e1]
          show _ = _
          rw [hgo.out, tabGo_bad hlt (by rw [e2]; exact h4), e2]
         clear h4
         go_wp2
         go_ret2
         exact RetTbl.bad HM'.out (HBL.out _ hB6)
        have h5 : (r.2 != 0) = false := by simpa using h4
        have HCN : Hid (cellGo (lawsD xs) i j wss v = cellGo (lawsD xs) i j (wss.drop (k + 1)) (bits .or .i64 acc r.1)) := by show _ = _; rw [hce.out, cellGo_next HXK.out (by rw [HR.out]; exact h4), HR.out]
        clear h4
        have k1 : w6.cell? ⟨g0, i, none⟩ = some (.slice (some ⟨g, 0, none⟩) n n) := by rw [← hgl]; exact rowsC_last HST6.out.h0
        have k2 : w6.cell? ⟨g, j, none⟩ = some (.int .i64 acc) := cntC_get HST6.out.hg (by rw [List.getElem?_set_self (by omega)])
        have k3 := frozen_of_row w6 g j _ _ HST6.out.hg
        have hgs := lt_of_block HST6.out.hg
        go_wp2
        have HST7 := HST6.out.set j (bits .or .i64 acc r.1)
        rw [List.set_set] at HST7
        have hB7 : Below w1.heap.size w1 (w6.setCell ⟨g, j, none⟩ (.int .i64 (bits .or .i64 acc r.1))) := hB6.setCell (p := ⟨g, j, none⟩) (by simp; omega) _
        go_roundw
        case rel => exact ⟨k + 1, _, by go_num, by omega, HST7, HCN.out, hB7⟩
        case measure => simp [intOf]; omega
       ·have hk1 : ¬ ((k : Int) < (n' : Int)) := by omega
        have e1 : cellGo (lawsD xs) i j wss v = (0, acc) := by rw [hce.out, List.drop_eq_nil_of_le (by rw [HW.out.len]; omega)]; rfl
        have HN : Hid (rowM (lawsD xs) wss i = rowGo (lawsD xs) wss i (n - (j + 1)) (j + 1) (row.set j acc)) := by show _ = _; rw [hro.out, rowGo_next hltj hij HV.out (by rw [e1]), e1]
        clear e1
        go_wp2
        go_roundw
        case rel => exact ⟨j + 1, row.set j acc, by go_num, by omega, by rw [List.length_set]; exact hrl, hst2.out, HN.out, hB2⟩
        case measure => simp [intOf]; omega
    ·have hj1 : ¬ ((j : Int) < (n : Int)) := by omega
     have e1 : rowM (lawsD xs) wss i = (0, row) := by rw [hro.out, show n - j = 0 by omega]; rfl
     have HN : Hid (tableM (lawsD xs) wss = tabGo (lawsD xs) wss (n - (i + 1)) (i + 1) (rows ++ [row])) := by show _ = _; rw [hgo.out, tabGo_next hlt (by rw [e1]), e1]
     clear e1
     go_wp2
     go_roundw
     case rel => exact ⟨i + 1, gs ++ [g], rows ++ [row], by go_num, by omega, by rw [List.length_append, hgl]; rfl, hst.out.h0, hst.out.hr.snoc hrl hst.out.hg, (fun x hx => by
      rcases List.mem_append.1 hx with h | h
      ·exact HG0.out x h
      ·obtain rfl : x = g := by simpa using h
       exact Ne.symm hst.out.ne.1), HN.out, hB⟩
     case measure => simp [intOf]; omega
  ·have hi1 : ¬ ((i : Int) < (n : Int)) := by omega
   have HM' : Hid (tableM (lawsD xs) wss = (0, rows)) := by show _ = _; rw [hgo.out, show n - i = 0 by omega]; rfl
   go_wp2
   go_ret2
   exact ⟨some ⟨g0, 0, none⟩, n, n, by rw [HM'.out]; rfl, by rw [HM'.out]; exact rowsC_tab hh0.out (by omega) hnm hrw.out, HBL.out _ hB⟩
end Go.Proofs.YtcpcojgmmpnkoaaGreatDoor

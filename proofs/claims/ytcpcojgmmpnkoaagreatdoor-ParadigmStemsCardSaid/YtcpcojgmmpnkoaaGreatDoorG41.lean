/-
  Two laws and a word (interplay.Relation), in plain words.
  interplay.Relation: its two functions.
  interplay.Relation, Commute, Feeds.
-/
import Derived.BigFrame
import Derived.Test.YtcpcojgmmpnkoaaGreatDoorG21
import Derived.Test.YtcpcojgmmpnkoaaGreatDoorG13
set_option linter.unusedVariables false
set_option linter.unusedSimpArgs false
set_option maxRecDepth 100000
set_option maxHeartbeats 4000000
namespace Go.Proofs.YtcpcojgmmpnkoaaGreatDoor
open Go.RowKit Go.Shelf
theorem applyM_bad {l : LawD} {ws : List Snd} (hl : lawE l = 0) (hw : wcheck ws ≠ 0) : applyM l ws = (wcheck ws, []) := by
 have hlc : lcheckE l ws = wcheck ws := by unfold lcheckE; rw [if_pos hl]
 have ht : traceM l ws = (wcheck ws, []) := by unfold traceM; rw [hlc, if_pos hw]
 unfold applyM; rw [ht, if_pos hw]
theorem applyM_nil {l : LawD} {ws : List Snd} (h : (applyM l ws).1 ≠ 0) : (applyM l ws).2 = [] := by
 unfold applyM at h ⊢
 by_cases h0 : (traceM l ws).1 = 0
 ·rw [if_neg (by simpa using h0)] at h; exact absurd rfl h
 ·rw [if_pos h0]
def bitsR (c1 c2 c3 c4 o : Bool) : Int :=
 (if c1 && !c2 then 1 else 0) + (if !c1 && c2 then 2 else 0) + (if c3 && !c4 then 4 else 0) + (if !c3 && c4 then 8 else 0) + (if o then 0 else 16)
def relN (a b : LawD) (ws : List Snd) : Int :=
 bitsR (decide (ws = (applyM b ws).2)) (decide ((applyM a ws).2 = (applyM b (applyM a ws).2).2)) (decide (ws = (applyM a ws).2)) (decide ((applyM b ws).2 = (applyM a (applyM b ws).2).2)) (decide ((applyM b (applyM a ws).2).2 = (applyM a (applyM b ws).2).2))
def relM (a b : LawD) (ws : List Snd) : Int × Int :=
 if lawE a ≠ 0 ∨ lawE b ≠ 0 then (0, 17)
 else if (applyM a ws).1 ≠ 0 then (0, (applyM a ws).1)
 else if (applyM b ws).1 ≠ 0 then (0, (applyM b ws).1)
 else if (applyM b (applyM a ws).2).1 ≠ 0 then (0, (applyM b (applyM a ws).2).1)
 else if (applyM a (applyM b ws).2).1 ≠ 0 then (0, (applyM a (applyM b ws).2).1)
 else (relN a b ws, 0)
def FourOK (a b : LawD) (ws : List Snd) : Prop := (applyM a ws).1 = 0 ∧ (applyM b ws).1 = 0 ∧ (applyM b (applyM a ws).2).1 = 0 ∧ (applyM a (applyM b ws).2).1 = 0
theorem FourOK.comm {a b : LawD} {ws : List Snd} (h : FourOK a b ws) : FourOK b a ws := ⟨h.2.1, h.1, h.2.2.2, h.2.2.1⟩
theorem rel_law {a b : LawD} {ws : List Snd} (h : lawE a ≠ 0 ∨ lawE b ≠ 0) : relM a b ws = (0, 17) := by unfold relM; rw [if_pos h]
theorem rel_good {a b : LawD} {ws : List Snd} (ha : lawE a = 0) (hb : lawE b = 0) (h : FourOK a b ws) : relM a b ws = (relN a b ws, 0) := by
 obtain ⟨h1, h2, h3, h4⟩ := h
 unfold relM
 rw [if_neg (by simp [ha, hb]), if_neg (by simpa using h1), if_neg (by simpa using h2), if_neg (by simpa using h3), if_neg (by simpa using h4)]
theorem rel_word {a b : LawD} {ws : List Snd} (ha : lawE a = 0) (hb : lawE b = 0) (hw : wcheck ws ≠ 0) : relM a b ws = (0, wcheck ws) := by
 have h := applyM_bad ha hw
 unfold relM
 rw [if_neg (by simp [ha, hb]), h, if_pos hw]
theorem rel_long {a b : LawD} {ws : List Snd} (ha : lawE a = 0) (hb : lawE b = 0) (hw : wcheck ws = 0) (h : ¬ FourOK a b ws) : relM a b ws = (0, 11) := by
 have oa := applyM_ok ha hw
 have ob := applyM_ok hb hw
 unfold relM
 rw [if_neg (by simp [ha, hb])]
 by_cases h1 : (applyM a ws).1 = 0
 case neg => rw [if_pos h1]; rcases oa with q | q; rw [q]; exact absurd q.1 h1
 by_cases h2 : (applyM b ws).1 = 0
 case neg => rw [if_neg (by simpa using h1), if_pos h2]; rcases ob with q | q; rw [q]; exact absurd q.1 h2
 have wa : wcheck (applyM a ws).2 = 0 := by
  rcases oa with q | q
  ·rw [q] at h1; exact absurd h1 (by decide)
  ·exact q.2
 have wb : wcheck (applyM b ws).2 = 0 := by
  rcases ob with q | q
  ·rw [q] at h2; exact absurd h2 (by decide)
  ·exact q.2
 have oab := applyM_ok hb wa
 have oba := applyM_ok ha wb
 rw [if_neg (by simpa using h1), if_neg (by simpa using h2)]
 by_cases h3 : (applyM b (applyM a ws).2).1 = 0
 case neg => rw [if_pos h3]; rcases oab with q | q; rw [q]; exact absurd q.1 h3
 rw [if_neg (by simpa using h3)]
 by_cases h4 : (applyM a (applyM b ws).2).1 = 0
 case neg => rw [if_pos h4]; rcases oba with q | q; rw [q]; exact absurd q.1 h4
 exact absurd ⟨h1, h2, h3, h4⟩ h
theorem rel_cases (a b : LawD) (ws : List Snd) :
  (∃ er, er ≠ 0 ∧ relM a b ws = (0, er) ∧ relM b a ws = (0, er)) ∨ (lawE a = 0 ∧ lawE b = 0 ∧ wcheck ws = 0 ∧ FourOK a b ws ∧ relM a b ws = (relN a b ws, 0) ∧ relM b a ws = (relN b a ws, 0)) := by
 by_cases ha : lawE a = 0
 case neg => exact .inl ⟨17, by decide, rel_law (.inl ha), rel_law (.inr ha)⟩
 by_cases hb : lawE b = 0
 case neg => exact .inl ⟨17, by decide, rel_law (.inr hb), rel_law (.inl hb)⟩
 by_cases hw : wcheck ws = 0
 case neg => exact .inl ⟨_, hw, rel_word ha hb hw, rel_word hb ha hw⟩
 by_cases h : FourOK a b ws
 ·exact .inr ⟨ha, hb, hw, h, rel_good ha hb h, rel_good hb ha h.comm⟩
 ·exact .inl ⟨11, by decide, rel_long ha hb hw h, rel_long hb ha hw fun q => h q.comm⟩
theorem relN_swap (a b : LawD) (ws : List Snd) : ∃ c1 c2 c3 c4 o : Bool, relN a b ws = bitsR c1 c2 c3 c4 o ∧ relN b a ws = bitsR c3 c4 c1 c2 o :=
 ⟨_, _, _, _, _, rfl, by unfold relN; congr 1; exact decide_eq_decide.2 ⟨Eq.symm, Eq.symm⟩⟩
theorem relN_self (a : LawD) (ws : List Snd) : ∃ c1 c2 : Bool, (c1 = true → c2 = true) ∧ relN a a ws = bitsR c1 c2 c1 c2 true := by
 refine ⟨decide (ws = (applyM a ws).2), decide ((applyM a ws).2 = (applyM a (applyM a ws).2).2), fun h => ?_, ?_⟩
 ·have h1 := of_decide_eq_true h
  apply decide_eq_true
  exact congrArg (fun x => (applyM a x).2) h1
 ·unfold relN
  rw [decide_eq_true (rfl : (applyM a (applyM a ws).2).2 = (applyM a (applyM a ws).2).2)]
theorem relN_free {a b : LawD} {ws : List Snd} (h1 : (applyM a ws).2 = ws) (h2 : (applyM a (applyM b ws).2).2 = (applyM b ws).2) : relN a b ws = 0 := by
 unfold relN
 rw [h1, h2]
 unfold bitsR
 cases decide (ws = (applyM b ws).2) <;> simp
def orderedB (a b : LawD) (ws : List Snd) : Bool := !decide ((applyM b (applyM a ws).2).2 = (applyM a (applyM b ws).2).2)
theorem relN_low (a b : LawD) (ws : List Snd) : ∃ m : Int, 0 ≤ m ∧ m < 16 ∧ relN a b ws = m + (if orderedB a b ws then 16 else 0) := by
 unfold relN orderedB
 generalize decide (ws = (applyM b ws).2) = c1
 generalize decide ((applyM a ws).2 = (applyM b (applyM a ws).2).2) = c2
 generalize decide (ws = (applyM a ws).2) = c3
 generalize decide ((applyM b ws).2 = (applyM a (applyM b ws).2).2) = c4
 generalize decide ((applyM b (applyM a ws).2).2 = (applyM a (applyM b ws).2).2) = o
 refine ⟨bitsR c1 c2 c3 c4 true, ?_, ?_, ?_⟩
 ·revert c1 c2 c3 c4; decide
 ·revert c1 c2 c3 c4; decide
 ·revert c1 c2 c3 c4 o; decide
end Go.Proofs.YtcpcojgmmpnkoaaGreatDoor
namespace Go.Proofs.YtcpcojgmmpnkoaaGreatDoor
open Go.RowKit Go.Shelf
attribute [local go_sem] Oper.semAt_some
def byM (e0 : Int) (l : LawD) (ws : List Snd) : Int × List Snd := if e0 ≠ 0 then (e0, []) else ((applyM l ws).1, (applyM l ws).2)
theorem by_c (l : LawD) (a : LawA) (A : Option Addr) (n c : Nat) (ws : List Snd) (bf : Nat) (e0 : Int) (w : World) (hl : LawAt w l a) (hw : IsWord w A n c ws) (hT : TabOK w) (hf : w.heap[bf]? = some (.cells #[.int .i64 e0] 37 (0, 0))) :
  Calls Tryz.prog 89 #[lawV l a, .slice A n c, .pointer (some ⟨bf, 0, none⟩)] w fun e w' => ∃ A' n' c', e = .returned (.slice A' n' c') ∧ IsWord w' A' n' c' (byM e0 l ws).2 ∧
   w'.heap[bf]? = some (.cells #[.int .i64 (byM e0 l ws).1] 37 (0, 0)) ∧ Keep (fun k => k = bf) w w' ∧ ∀ ad, A' = some ad → w.heap.size ≤ ad.block := by
 have HL := hI hl; clear hl
 have HW := hI hw; clear hw
 have HT := hI hT; clear hT
 have hlt := lt_of_block hf
 obtain ⟨Wb, hWb, hrb, hlb, hBb, hzb⟩ := law_box w l a
 have hfb := (hBb.block bf hlt).trans hf
 have HFB := hI hfb
 have c0 := cell_of_one hfb
 clear hf hfb
 by_cases h0 : e0 = 0
 ·have HM : Hid (byM e0 l ws = ((applyM l ws).1, (applyM l ws).2)) := by show _ = _; unfold byM; rw [if_neg (by simpa using h0)]
  have h1 : (e0 != 0) = false := by simpa using h0
  clear h0
  go_enter Tryz.func89, Tryz.ntmps89
  go_wp2_with (refine load_law rfl (.tmp 3) rfl w.heap.size l a rfl hrb ?_)
  refine (apply_c l a A n c ws Wb (HL.out.below hBb rr) (HW.out.below hBb rr) (HT.out.below hBb rr)).mono ?_
  rintro e w1 ⟨A1, n1, c1, rfl, hw1, hb1, hf1⟩
  have hx := (hb1.block bf (by omega)).trans HFB.out
  have c1' := cell_of_one hx
  have f1 := free_of_one hx
  have HX := hI hx; clear hx c0
  have HW1 := hI hw1; clear hw1
  have HF1 := hI hf1; clear hf1
  have hB1 : Below w.heap.size w w1 := hBb.trans (hb1.mono hBb.size)
  have HB1 := hI hB1; clear hB1 hb1
  go_wp2
  have hK : Keep (fun k => k = bf) w1 (w1.setCell ⟨bf, 0, none⟩ (.int .i64 (applyM l ws).1)) := (Keep.refl (fun k => k = bf) w1).setCell (p := ⟨bf, 0, none⟩) rfl _
  go_ret
  refine ⟨A1, n1, c1, rfl, ?_, ?_, ?_, fun ad had => Nat.le_trans hBb.size (HF1.out ad had)⟩
  ·rw [HM.out]; exact HW1.out.keep hK fun _ ad had e => by have := HF1.out ad had; omega
  ·rw [HM.out]; exact one_setCell HX.out
  ·exact ⟨HB1.out.os, HB1.out.tape, HB1.out.output, by have := HB1.out.size; simpa using this, fun k hk hs => (hK.block k (by have := HB1.out.size; omega) hs).trans (HB1.out.block k hk)⟩
 ·have HM : Hid (byM e0 l ws = (e0, [])) := by show _ = _; unfold byM; rw [if_pos h0]
  have h1 : (e0 != 0) = true := by simpa using h0
  clear h0
  go_enter Tryz.func89, Tryz.ntmps89
  go_wp2
  go_ret
  exact ⟨none, 0, 0, rfl, by rw [HM.out]; exact Cells.nil _ _, by rw [HM.out]; exact HFB.out, ⟨hBb.os, hBb.tape, hBb.output, hBb.size, fun k hk _ => hBb.block k hk⟩, fun ad h => by cases h⟩
def NoteR (b : Bool) (m r : Int) (br : Nat) (w : World) (e : Ending) (w' : World) : Prop :=
 (∃ v, e = .returned v) ∧ ∃ q : Int, q = (if b then bits .or .i64 r m else r) ∧ w'.heap[br]? = some (.cells #[.int .i64 q] 3 (0, 0)) ∧ Keep (fun k => k = br) w w'
theorem note_c (b : Bool) (m r : Int) (br : Nat) (w : World) (hr : w.heap[br]? = some (.cells #[.int .i64 r] 3 (0, 0))) :
  Calls Tryz.prog 91 #[.bool b, .int .i64 m, .pointer (some ⟨br, 0, none⟩)] w (NoteR b m r br w) := by
 have hlt := lt_of_block hr
 have c0 := cell_of_one hr
 have f0 := free_of_one hr
 have HR := hI hr; clear hr
 cases b
 ·go_enter Tryz.func91, Tryz.ntmps91
  go_wp2
  refine bodyPost_end (results_none rfl _ _ _) rfl ?_
  exact ⟨⟨_, rfl⟩, r, rfl, HR.out, Keep.refl _ _⟩
 ·go_enter Tryz.func91, Tryz.ntmps91
  go_wp2
  refine bodyPost_end (results_none rfl _ _ _) rfl ?_
  exact ⟨⟨_, rfl⟩, _, rfl, one_setCell HR.out, (Keep.refl (fun k => k = br) w).setCell (p := ⟨br, 0, none⟩) rfl _⟩
end Go.Proofs.YtcpcojgmmpnkoaaGreatDoor
namespace Go.Proofs.YtcpcojgmmpnkoaaGreatDoor
open Go.RowKit Go.Shelf
theorem load_law_w {ops : Array Oper} {rest : List Oper} {op : Oper} {ac : Act} {w : World} {Q : Exit → Act → World → Prop} (hw : Region.wanted op (yielded ops ac.tmps) = true) (x : Operand) (ho : op.op = .load 34 x)
  (b : Nat) (l : LawD) (a : LawA) (hx : ac.eval x = .pointer (some ⟨b, 0, none⟩)) {t : TypeId} {fr : Nat × Nat} (hr : w.heap[b]? = some (.cells (lawCs l a) t fr)) (h : wpList Tryz.prog ops Q rest (ac.put op.dst (lawV l a)) w) : wpList Tryz.prog ops Q (op :: rest) ac w :=
 BigFrame.wpList_want hw fun K hK => by
  unfold Oper.wp execOp
  simp only [ho, hx, Instr.loadAt, Instr.sureAddr, Sem.run_bind, Sem.run_pure, Result.andThen_ok, run_load_law hr]
  exact hK _ _ h
structure RelSt (w : World) (bA bB : Nat) (la : LawD) (aa : LawA) (lb : LawD) (ab : LawA) (W : World) : Prop where
 b : Below w.heap.size w W
 hA : W.heap[bA]? = some (.cells (lawCs la aa) 34 (0, 0))
 hB : W.heap[bB]? = some (.cells (lawCs lb ab) 34 (0, 0))
section
variable {w W W' : World} {bA bB : Nat} {la lb : LawD} {aa ab : LawA}
theorem RelSt.below (h : RelSt w bA bB la aa lb ab W) (hb : Below W.heap.size W W') : RelSt w bA bB la aa lb ab W' :=
 ⟨h.b.trans (hb.mono h.b.size), (hb.block _ (lt_of_block h.hA)).trans h.hA, (hb.block _ (lt_of_block h.hB)).trans h.hB⟩
theorem RelSt.keep (h : RelSt w bA bB la aa lb ab W) {bf : Nat} (hk : Keep (fun k => k = bf) W W') (h0 : w.heap.size ≤ bf) (h1 : bA < bf) (h2 : bB < bf) : RelSt w bA bB la aa lb ab W' :=
 ⟨h.b.trans (hk.to_below (fun k e => by omega) h.b.size), (hk.block _ (lt_of_block h.hA) (by omega)).trans h.hA, (hk.block _ (lt_of_block h.hB) (by omega)).trans h.hB⟩
end
theorem word_keepb {W W' : World} {A : Option Addr} {n c bf : Nat} {xs : List Snd} (h : IsWord W A n c xs) (hk : Keep (fun k => k = bf) W W') (hf : ∀ ad, A = some ad → bf < ad.block) : IsWord W' A n c xs :=
 h.keep hk fun _ ad had e => by have := hf ad had; omega
theorem rel_by {a b : LawD} {ws : List Snd} {r1 r2 r3 r4 : Int × List Snd} (ha : lawE a = 0) (hb : lawE b = 0) (h1 : r1 = byM 0 a ws) (h2 : r2 = byM r1.1 b ws) (h3 : r3 = byM r2.1 b r1.2) (h4 : r4 = byM r3.1 a r2.2) :
  (r4.1 ≠ 0 → relM a b ws = (0, r4.1)) ∧ (r4.1 = 0 → relM a b ws = (bitsR (decide (ws = r2.2)) (decide (r1.2 = r3.2)) (decide (ws = r1.2)) (decide (r2.2 = r4.2)) (decide (r3.2 = r4.2)), 0)) := by
 have e1 : r1 = ((applyM a ws).1, (applyM a ws).2) := by rw [h1]; unfold byM; rw [if_neg (by simp)]
 unfold relM
 rw [if_neg (by simp [ha, hb])]
 by_cases q1 : (applyM a ws).1 = 0
 case neg =>
  have f2 : r2 = (r1.1, []) := by rw [h2]; unfold byM; rw [if_pos (by rw [e1]; exact q1)]
  have f3 : r3 = (r1.1, []) := by rw [h3, f2]; unfold byM; rw [if_pos (by rw [e1]; exact q1)]
  have f4 : r4 = (r1.1, []) := by rw [h4, f3]; unfold byM; rw [if_pos (by rw [e1]; exact q1)]
  rw [if_pos q1, f4, e1]
  exact ⟨fun _ => rfl, fun h => absurd h q1⟩
 rw [if_neg (by simpa using q1)]
 have e2 : r2 = ((applyM b ws).1, (applyM b ws).2) := by rw [h2, e1]; unfold byM; rw [if_neg (by simpa using q1)]
 by_cases q2 : (applyM b ws).1 = 0
 case neg =>
  have f3 : r3 = (r2.1, []) := by rw [h3]; unfold byM; rw [if_pos (by rw [e2]; exact q2)]
  have f4 : r4 = (r2.1, []) := by rw [h4, f3]; unfold byM; rw [if_pos (by rw [e2]; exact q2)]
  rw [if_pos q2, f4, e2]
  exact ⟨fun _ => rfl, fun h => absurd h q2⟩
 rw [if_neg (by simpa using q2)]
 have e3 : r3 = ((applyM b (applyM a ws).2).1, (applyM b (applyM a ws).2).2) := by rw [h3, e2, e1]; unfold byM; rw [if_neg (by simpa using q2)]
 by_cases q3 : (applyM b (applyM a ws).2).1 = 0
 case neg =>
  have f4 : r4 = (r3.1, []) := by rw [h4]; unfold byM; rw [if_pos (by rw [e3]; exact q3)]
  rw [if_pos q3, f4, e3]
  exact ⟨fun _ => rfl, fun h => absurd h q3⟩
 rw [if_neg (by simpa using q3)]
 have e4 : r4 = ((applyM a (applyM b ws).2).1, (applyM a (applyM b ws).2).2) := by rw [h4, e3, e2]; unfold byM; rw [if_neg (by simpa using q3)]
 by_cases q4 : (applyM a (applyM b ws).2).1 = 0
 case neg => rw [if_pos q4, e4]; exact ⟨fun _ => rfl, fun h => absurd h q4⟩
 rw [if_neg (by simpa using q4), e4, e3, e2, e1]
 exact ⟨fun h => absurd q4 h, fun _ => rfl⟩
theorem relation_c (la : LawD) (aa : LawA) (lb : LawD) (ab : LawA) (A : Option Addr) (n c : Nat) (ws : List Snd) (w : World) (hla : LawAt w la aa) (hlb : LawAt w lb ab) (hw : IsWord w A n c ws) (hT : TabOK w) :
  Calls Tryz.prog 29 #[lawV la aa, lawV lb ab, .slice A n c] w fun e w' => e = .returned (.tuple #[.int .i64 (relM la lb ws).1, .int .i64 (relM la lb ws).2]) ∧ Below w.heap.size w w' := by
 have HLA := hI hla; clear hla
 have HLB := hI hlb; clear hlb
 have HW := hI hw; clear hw
 have HT := hI hT; clear hT
 obtain ⟨W1, hW1, hr1, hl1, hB1, hz1⟩ := law_box w la aa
 obtain ⟨W2, hW2, hr2, hl2, hB2, hz2⟩ := law_box W1 lb ab
 have HS2 : Hid (RelSt w w.heap.size W1.heap.size la aa lb ab W2) := ⟨hB1.trans (hB2.mono hB1.size), (hB2.block _ hl1).trans hr1, hr2⟩
 clear hr1 hr2 hB1 hB2
 go_enter Tryz.func29, Tryz.ntmps29
 go_wp2_with (refine load_law rfl (.tmp 3) rfl w.heap.size la aa rfl HS2.out.hA ?_)
 clear hW1 hW2
 obtain ⟨bA, hbA⟩ : ∃ b, b = w.heap.size := ⟨_, rfl⟩
 obtain ⟨bB, hbB⟩ : ∃ b, b = W1.heap.size := ⟨_, rfl⟩
 rw [← hbA, ← hbB]
 have HS2' : Hid (RelSt w bA bB la aa lb ab W2) := by rw [hbA, hbB]; exact HS2
 have HLW : Hid (w.heap.size ≤ bA) := Nat.le_of_eq hbA.symm
 clear HS2 hbA hbB
 refine (lCheck_c la aa W2 (HLA.out.below HS2'.out.b rr)).mono ?_
 rintro e w3 ⟨rfl, hb⟩
 have HS3 := hI (HS2'.out.below hb); clear hb HS2'
 by_cases h0 : lawE la = 0
 case neg =>
  have h1 : (lawE la != 0) = true := by simpa using h0
  have HM := hI (rel_law (b := lb) (ws := ws) (.inl h0)); clear h0
  go_wp2
  go_ret2
  exact ⟨by rw [HM.out]; rfl, HS3.out.b⟩
 have h1 : (lawE la != 0) = false := by simpa using h0
 have HA0 := hI h0; clear h0
 go_wp2_with (refine load_law_w (by rfl) (.tmp 4) rfl bB lb ab rfl HS3.out.hB ?_)
 refine (lCheck_c lb ab w3 (HLB.out.below HS3.out.b rr)).mono ?_
 rintro e w4 ⟨rfl, hb⟩
 have HS4 := hI (HS3.out.below hb); clear hb HS3 h1
 by_cases h0 : lawE lb = 0
 case neg =>
  have h1 : (lawE lb != 0) = true := by simpa using h0
  have HM := hI (rel_law (a := la) (ws := ws) (.inr h0)); clear h0
  go_wp2
  go_ret2
  exact ⟨by rw [HM.out]; rfl, HS4.out.b⟩
 have h1 : (lawE lb != 0) = false := by simpa using h0
 have HB0 := hI h0; clear h0
 have HS5 : Hid (RelSt w bA bB la aa lb ab (w4.alloc (.cells #[.int .i64 0] 37))) := HS4.out.below ((Below.refl w4.heap.size w4).alloc rr _)
 have HF5 : Hid ((w4.alloc (.cells #[.int .i64 0] 37)).heap[w4.heap.size]? = some (.cells #[.int .i64 0] 37 (0, 0))) := heap_new_at rfl
 have g1 : bA < w4.heap.size := lt_of_block HS4.out.hA
 have g2 : bB < w4.heap.size := lt_of_block HS4.out.hB
 have g3 : w.heap.size ≤ w4.heap.size := HS4.out.b.size
 clear HS4
 go_wp2_with (refine load_law rfl (.tmp 3) rfl bA la aa rfl HS5.out.hA ?_)
 clear h1
 obtain ⟨bf, hbf⟩ : ∃ b, b = w4.heap.size := ⟨_, rfl⟩
 have hl : bf < (w4.alloc (.cells #[.int .i64 0] 37)).heap.size := by rw [hbf]; simp
 rw [← hbf] at HF5 g1 g2 g3 ⊢
 clear hbf
 generalize w4.alloc (.cells #[.int .i64 0] 37) = w5 at *
 refine (by_c la aa A n c ws bf 0 w5 (HLA.out.below HS5.out.b rr) (HW.out.below HS5.out.b rr) (HT.out.below HS5.out.b rr) HF5.out).mono ?_
 obtain ⟨r1, hr1⟩ : ∃ r, r = byM 0 la ws := ⟨_, rfl⟩
 rw [← hr1]
 have HR1 := hI hr1; clear hr1
 rintro e w6 ⟨A6, n6, c6, rfl, hx, hf, hk, hfr⟩
 have HS6 := hI (HS5.out.keep hk g3 g1 g2)
 have HF6 := hI hf; clear hf
 have HX1 := hI hx; clear hx
 have HN1 : Hid (∀ ad, A6 = some ad → bf < ad.block) := fun ad had => Nat.lt_of_lt_of_le hl (hfr ad had)
 replace hl : bf < w6.heap.size := Nat.lt_of_lt_of_le hl hk.size
 clear hk hfr HS5 HF5
 go_wp2_with (refine load_law rfl (.tmp 4) rfl bB lb ab rfl HS6.out.hB ?_)
 refine (by_c lb ab A n c ws bf r1.1 w6 (HLB.out.below HS6.out.b rr) (HW.out.below HS6.out.b rr) (HT.out.below HS6.out.b rr) HF6.out).mono ?_
 obtain ⟨r2, hr2⟩ : ∃ r, r = byM r1.1 lb ws := ⟨_, rfl⟩
 rw [← hr2]
 have HR2 := hI hr2; clear hr2
 rintro e w7 ⟨A7, n7, c7, rfl, hx, hf, hk, hfr⟩
 have HS7 := hI (HS6.out.keep hk g3 g1 g2)
 have HF7 := hI hf; clear hf
 have HX2 := hI hx; clear hx
 have HN2 : Hid (∀ ad, A7 = some ad → bf < ad.block) := fun ad had => Nat.lt_of_lt_of_le hl (hfr ad had)
 replace HX1 := hI (word_keepb HX1.out hk HN1.out)
 replace hl : bf < w7.heap.size := Nat.lt_of_lt_of_le hl hk.size
 clear hk hfr HS6 HF6
 go_wp2_with (refine load_law rfl (.tmp 4) rfl bB lb ab rfl HS7.out.hB ?_)
 refine (by_c lb ab A6 n6 c6 r1.2 bf r2.1 w7 (HLB.out.below HS7.out.b rr) HX1.out (HT.out.below HS7.out.b rr) HF7.out).mono ?_
 obtain ⟨r3, hr3⟩ : ∃ r, r = byM r2.1 lb r1.2 := ⟨_, rfl⟩
 rw [← hr3]
 have HR3 := hI hr3; clear hr3
 rintro e w8 ⟨A8, n8, c8, rfl, hx, hf, hk, hfr⟩
 have HS8 := hI (HS7.out.keep hk g3 g1 g2)
 have HF8 := hI hf; clear hf
 have HX3 := hI hx; clear hx
 have HN3 : Hid (∀ ad, A8 = some ad → bf < ad.block) := fun ad had => Nat.lt_of_lt_of_le hl (hfr ad had)
 replace HX1 := hI (word_keepb HX1.out hk HN1.out)
 replace HX2 := hI (word_keepb HX2.out hk HN2.out)
 replace hl : bf < w8.heap.size := Nat.lt_of_lt_of_le hl hk.size
 clear hk hfr HS7 HF7
 go_wp2_with (refine load_law rfl (.tmp 3) rfl bA la aa rfl HS8.out.hA ?_)
 refine (by_c la aa A7 n7 c7 r2.2 bf r3.1 w8 (HLA.out.below HS8.out.b rr) HX2.out (HT.out.below HS8.out.b rr) HF8.out).mono ?_
 obtain ⟨r4, hr4⟩ : ∃ r, r = byM r3.1 la r2.2 := ⟨_, rfl⟩
 rw [← hr4]
 have HR4 := hI hr4; clear hr4
 rintro e w9 ⟨A9, n9, c9, rfl, hx, hf, hk, hfr⟩
 have HS9 := hI (HS8.out.keep hk g3 g1 g2)
 have HF9 := hI hf; clear hf
 have HX4 := hI hx; clear hx
 have HN4 : Hid (∀ ad, A9 = some ad → bf < ad.block) := fun ad had => Nat.lt_of_lt_of_le hl (hfr ad had)
 replace HX1 := hI (word_keepb HX1.out hk HN1.out)
 replace HX2 := hI (word_keepb HX2.out hk HN2.out)
 replace HX3 := hI (word_keepb HX3.out hk HN3.out)
 replace hl : bf < w9.heap.size := Nat.lt_of_lt_of_le hl hk.size
 clear hk hfr HS8 HF8
 obtain ⟨hbad, hgood⟩ := rel_by HA0.out HB0.out HR1.out HR2.out HR3.out HR4.out
 have c9 := cell_of_one HF9.out
 have HBW := hI HS9.out.b
 by_cases h0 : r4.1 = 0
 case neg =>
  have h1 : (r4.1 != 0) = true := by simpa using h0
  have HM := hI (hbad h0); clear h0 hbad hgood
  go_wp2
  refine plain_region (fun W' => W'.cell? ⟨bf, 0, none⟩ = some (.int .i64 r4.1)) (by kernel_rfl) c9 (fun hHeld => ?_)
  (refine' anyT_tk 0 rfl ?_; (try simp only [Act.put, nA, nB, nC, nD, nE, nF])); (refine' anyT_tk 1 rfl ?_; (try simp only [Act.put, nA, nB, nC, nD, nE, nF]))
  (refine anyT_step (i := 2) (by kernel_rfl) rfl (fun K' hK' => ?_); simp only [List.getElem_toArray, List.getElem_cons_zero, List.getElem_cons_succ]; go_simp)
  refine hK' _ _ ⟨.inl (by kernel_rfl), fun _ => anyT_done (by kernel_rfl) ?_ _⟩
  clear hK' K'
  go_wp2
  go_ret2
  exact ⟨by rw [HM.out]; rfl, HBW.out.drew⟩
 have h1 : (r4.1 != 0) = false := by simpa using h0
 have HM := hI (hgood h0); clear h0 hbad hgood HA0 HB0 HR1 HR2 HR3 HR4 HS9
 go_wp2_with fail
 clear h1 c9
 obtain ⟨br, hbr⟩ : ∃ b, b = w9.heap.size := ⟨_, rfl⟩
 have hr0 : (w9.alloc (.cells #[.int .i64 0] 3)).heap[w9.heap.size]? = some (.cells #[.int .i64 0] 3 (0, 0)) := heap_new_at rfl
 have hk0 : Below w9.heap.size w9 (w9.alloc (.cells #[.int .i64 0] 3)) := (Below.refl _ _).alloc rr _
 rw [← hbr] at hr0 ⊢
 have hb9 : w9.heap.size ≤ br := Nat.le_of_eq hbr.symm
 clear hbr
 generalize w9.alloc (.cells #[.int .i64 0] 3) = v0 at *
 have HR := hI hr0; clear hr0
 have HK := hI hk0; clear hk0
 obtain ⟨d1, hd1⟩ : ∃ d, d = decide (ws = r2.2) := ⟨_, rfl⟩
 obtain ⟨d2, hd2⟩ : ∃ d, d = decide (r1.2 = r3.2) := ⟨_, rfl⟩
 obtain ⟨d3, hd3⟩ : ∃ d, d = decide (ws = r1.2) := ⟨_, rfl⟩
 obtain ⟨d4, hd4⟩ : ∃ d, d = decide (r2.2 = r4.2) := ⟨_, rfl⟩
 obtain ⟨d5, hd5⟩ : ∃ d, d = decide (r3.2 = r4.2) := ⟨_, rfl⟩
 rw [← hd1, ← hd2, ← hd3, ← hd4, ← hd5] at HM
 have HD1 := hI hd1; clear hd1
 have HD2 := hI hd2; clear hd2
 have HD3 := hI hd3; clear hd3
 have HD4 := hI hd4; clear hd4
 have HD5 := hI hd5; clear hd5
 refine (wEqual_c A A7 n n7 c c7 ws r2.2 v0 (HW.out.below (HBW.out.trans (HK.out.mono HBW.out.size)) rr) (HX2.out.below HK.out rr)).mono ?_
 rw [← HD1.out]
 rintro e v1 ⟨rfl, hb⟩
 replace HR := hI ((hb.block br (lt_of_block HR.out)).trans HR.out)
 replace HK := hI (HK.out.trans (hb.mono HK.out.size))
 clear hb
 go_wp2_with fail
 refine (wEqual_c A6 A8 n6 n8 c6 c8 r1.2 r3.2 v1 (HX1.out.below HK.out rr) (HX3.out.below HK.out rr)).mono ?_
 rw [← HD2.out]
 rintro e v2 ⟨rfl, hb⟩
 replace HR := hI ((hb.block br (lt_of_block HR.out)).trans HR.out)
 replace HK := hI (HK.out.trans (hb.mono HK.out.size))
 clear hb
 cases d1
 ·go_wp2_with fail
  refine (note_c _ _ _ br v2 HR.out).mono ?_
  rintro e v3 ⟨⟨uv3, rfl⟩, qv3, hq, hr, hk⟩
  replace HK := hI (HK.out.trans (hk.to_below (fun k e => by omega) HK.out.size))
  replace HR := hI hr
  have HQv3 := hI hq
  clear hr hk hq
  go_wp2_with fail
  refine (note_c _ _ _ br v3 HR.out).mono ?_
  rintro e v4 ⟨⟨uv4, rfl⟩, qv4, hq, hr, hk⟩
  replace HK := hI (HK.out.trans (hk.to_below (fun k e => by omega) HK.out.size))
  replace HR := hI hr
  have HQv4 := hI hq
  clear hr hk hq
  go_wp2_with fail
  refine (wEqual_c A A6 n n6 c c6 ws r1.2 v4 (HW.out.below (HBW.out.trans (HK.out.mono HBW.out.size)) rr) (HX1.out.below HK.out rr)).mono ?_
  rw [← HD3.out]
  rintro e v5 ⟨rfl, hb⟩
  replace HR := hI ((hb.block br (lt_of_block HR.out)).trans HR.out)
  replace HK := hI (HK.out.trans (hb.mono HK.out.size))
  clear hb
  go_wp2_with fail
  refine (wEqual_c A7 A9 n7 n9 c7 c9 r2.2 r4.2 v5 (HX2.out.below HK.out rr) (HX4.out.below HK.out rr)).mono ?_
  rw [← HD4.out]
  rintro e v6 ⟨rfl, hb⟩
  replace HR := hI ((hb.block br (lt_of_block HR.out)).trans HR.out)
  replace HK := hI (HK.out.trans (hb.mono HK.out.size))
  clear hb
  cases d3
  ·go_wp2_with fail
   refine (note_c _ _ _ br v6 HR.out).mono ?_
   rintro e v7 ⟨⟨uv7, rfl⟩, qv7, hq, hr, hk⟩
   replace HK := hI (HK.out.trans (hk.to_below (fun k e => by omega) HK.out.size))
   replace HR := hI hr
   have HQv7 := hI hq
   clear hr hk hq
   go_wp2_with fail
   refine (note_c _ _ _ br v7 HR.out).mono ?_
   rintro e v8 ⟨⟨uv8, rfl⟩, qv8, hq, hr, hk⟩
   replace HK := hI (HK.out.trans (hk.to_below (fun k e => by omega) HK.out.size))
   replace HR := hI hr
   have HQv8 := hI hq
   clear hr hk hq
   go_wp2_with fail
   refine (wEqual_c A8 A9 n8 n9 c8 c9 r3.2 r4.2 v8 (HX3.out.below HK.out rr) (HX4.out.below HK.out rr)).mono ?_
   rw [← HD5.out]
   rintro e v9 ⟨rfl, hb⟩
   replace HR := hI ((hb.block br (lt_of_block HR.out)).trans HR.out)
   replace HK := hI (HK.out.trans (hb.mono HK.out.size))
   clear hb
   go_wp2_with fail
   refine (note_c _ _ _ br v9 HR.out).mono ?_
   rintro e v10 ⟨⟨uv10, rfl⟩, qv10, hq, hr, hk⟩
   replace HK := hI (HK.out.trans (hk.to_below (fun k e => by omega) HK.out.size))
   replace HR := hI hr
   have HQv10 := hI hq
   clear hr hk hq
   have kc := cell_of_one HR.out
   go_wp2
   go_ret2
   refine ⟨?_, HBW.out.trans (HK.out.mono HBW.out.size)⟩
   rw [HM.out, HQv10.out, HQv8.out, HQv7.out, HQv4.out, HQv3.out]
   clear HM HQv10 HQv8 HQv7 HQv4 HQv3 kc HR HD1 HD2 HD3 HD4 HD5
   cases d2 <;> cases d4 <;> cases d5 <;> rfl
  ·go_wp2_with fail
   refine (note_c _ _ _ br v6 HR.out).mono ?_
   rintro e v7 ⟨⟨uv7, rfl⟩, qv7, hq, hr, hk⟩
   replace HK := hI (HK.out.trans (hk.to_below (fun k e => by omega) HK.out.size))
   replace HR := hI hr
   have HQv7 := hI hq
   clear hr hk hq
   go_wp2_with fail
   refine (note_c _ _ _ br v7 HR.out).mono ?_
   rintro e v8 ⟨⟨uv8, rfl⟩, qv8, hq, hr, hk⟩
   replace HK := hI (HK.out.trans (hk.to_below (fun k e => by omega) HK.out.size))
   replace HR := hI hr
   have HQv8 := hI hq
   clear hr hk hq
   go_wp2_with fail
   refine (wEqual_c A8 A9 n8 n9 c8 c9 r3.2 r4.2 v8 (HX3.out.below HK.out rr) (HX4.out.below HK.out rr)).mono ?_
   rw [← HD5.out]
   rintro e v9 ⟨rfl, hb⟩
   replace HR := hI ((hb.block br (lt_of_block HR.out)).trans HR.out)
   replace HK := hI (HK.out.trans (hb.mono HK.out.size))
   clear hb
   go_wp2_with fail
   refine (note_c _ _ _ br v9 HR.out).mono ?_
   rintro e v10 ⟨⟨uv10, rfl⟩, qv10, hq, hr, hk⟩
   replace HK := hI (HK.out.trans (hk.to_below (fun k e => by omega) HK.out.size))
   replace HR := hI hr
   have HQv10 := hI hq
   clear hr hk hq
   have kc := cell_of_one HR.out
   go_wp2
   go_ret2
   refine ⟨?_, HBW.out.trans (HK.out.mono HBW.out.size)⟩
   rw [HM.out, HQv10.out, HQv8.out, HQv7.out, HQv4.out, HQv3.out]
   clear HM HQv10 HQv8 HQv7 HQv4 HQv3 kc HR HD1 HD2 HD3 HD4 HD5
   cases d2 <;> cases d4 <;> cases d5 <;> rfl
 ·go_wp2_with fail
  refine (note_c _ _ _ br v2 HR.out).mono ?_
  rintro e v3 ⟨⟨uv3, rfl⟩, qv3, hq, hr, hk⟩
  replace HK := hI (HK.out.trans (hk.to_below (fun k e => by omega) HK.out.size))
  replace HR := hI hr
  have HQv3 := hI hq
  clear hr hk hq
  go_wp2_with fail
  refine (note_c _ _ _ br v3 HR.out).mono ?_
  rintro e v4 ⟨⟨uv4, rfl⟩, qv4, hq, hr, hk⟩
  replace HK := hI (HK.out.trans (hk.to_below (fun k e => by omega) HK.out.size))
  replace HR := hI hr
  have HQv4 := hI hq
  clear hr hk hq
  go_wp2_with fail
  refine (wEqual_c A A6 n n6 c c6 ws r1.2 v4 (HW.out.below (HBW.out.trans (HK.out.mono HBW.out.size)) rr) (HX1.out.below HK.out rr)).mono ?_
  rw [← HD3.out]
  rintro e v5 ⟨rfl, hb⟩
  replace HR := hI ((hb.block br (lt_of_block HR.out)).trans HR.out)
  replace HK := hI (HK.out.trans (hb.mono HK.out.size))
  clear hb
  go_wp2_with fail
  refine (wEqual_c A7 A9 n7 n9 c7 c9 r2.2 r4.2 v5 (HX2.out.below HK.out rr) (HX4.out.below HK.out rr)).mono ?_
  rw [← HD4.out]
  rintro e v6 ⟨rfl, hb⟩
  replace HR := hI ((hb.block br (lt_of_block HR.out)).trans HR.out)
  replace HK := hI (HK.out.trans (hb.mono HK.out.size))
  clear hb
  cases d3
  ·go_wp2_with fail
   refine (note_c _ _ _ br v6 HR.out).mono ?_
   rintro e v7 ⟨⟨uv7, rfl⟩, qv7, hq, hr, hk⟩
   replace HK := hI (HK.out.trans (hk.to_below (fun k e => by omega) HK.out.size))
   replace HR := hI hr
   have HQv7 := hI hq
   clear hr hk hq
   go_wp2_with fail
   refine (note_c _ _ _ br v7 HR.out).mono ?_
   rintro e v8 ⟨⟨uv8, rfl⟩, qv8, hq, hr, hk⟩
   replace HK := hI (HK.out.trans (hk.to_below (fun k e => by omega) HK.out.size))
   replace HR := hI hr
   have HQv8 := hI hq
   clear hr hk hq
   go_wp2_with fail
   refine (wEqual_c A8 A9 n8 n9 c8 c9 r3.2 r4.2 v8 (HX3.out.below HK.out rr) (HX4.out.below HK.out rr)).mono ?_
   rw [← HD5.out]
   rintro e v9 ⟨rfl, hb⟩
   replace HR := hI ((hb.block br (lt_of_block HR.out)).trans HR.out)
   replace HK := hI (HK.out.trans (hb.mono HK.out.size))
   clear hb
   go_wp2_with fail
   refine (note_c _ _ _ br v9 HR.out).mono ?_
   rintro e v10 ⟨⟨uv10, rfl⟩, qv10, hq, hr, hk⟩
   replace HK := hI (HK.out.trans (hk.to_below (fun k e => by omega) HK.out.size))
   replace HR := hI hr
   have HQv10 := hI hq
   clear hr hk hq
   have kc := cell_of_one HR.out
   go_wp2
   go_ret2
   refine ⟨?_, HBW.out.trans (HK.out.mono HBW.out.size)⟩
   rw [HM.out, HQv10.out, HQv8.out, HQv7.out, HQv4.out, HQv3.out]
   clear HM HQv10 HQv8 HQv7 HQv4 HQv3 kc HR HD1 HD2 HD3 HD4 HD5
   cases d2 <;> cases d4 <;> cases d5 <;> rfl
  ·go_wp2_with fail
   refine (note_c _ _ _ br v6 HR.out).mono ?_
   rintro e v7 ⟨⟨uv7, rfl⟩, qv7, hq, hr, hk⟩
   replace HK := hI (HK.out.trans (hk.to_below (fun k e => by omega) HK.out.size))
   replace HR := hI hr
   have HQv7 := hI hq
   clear hr hk hq
   go_wp2_with fail
   refine (note_c _ _ _ br v7 HR.out).mono ?_
   rintro e v8 ⟨⟨uv8, rfl⟩, qv8, hq, hr, hk⟩
   replace HK := hI (HK.out.trans (hk.to_below (fun k e => by omega) HK.out.size))
   replace HR := hI hr
   have HQv8 := hI hq
   clear hr hk hq
   go_wp2_with fail
   refine (wEqual_c A8 A9 n8 n9 c8 c9 r3.2 r4.2 v8 (HX3.out.below HK.out rr) (HX4.out.below HK.out rr)).mono ?_
   rw [← HD5.out]
   rintro e v9 ⟨rfl, hb⟩
   replace HR := hI ((hb.block br (lt_of_block HR.out)).trans HR.out)
   replace HK := hI (HK.out.trans (hb.mono HK.out.size))
   clear hb
   go_wp2_with fail
   refine (note_c _ _ _ br v9 HR.out).mono ?_
   rintro e v10 ⟨⟨uv10, rfl⟩, qv10, hq, hr, hk⟩
   replace HK := hI (HK.out.trans (hk.to_below (fun k e => by omega) HK.out.size))
   replace HR := hI hr
   have HQv10 := hI hq
   clear hr hk hq
   have kc := cell_of_one HR.out
   go_wp2
   go_ret2
   refine ⟨?_, HBW.out.trans (HK.out.mono HBW.out.size)⟩
   rw [HM.out, HQv10.out, HQv8.out, HQv7.out, HQv4.out, HQv3.out]
   clear HM HQv10 HQv8 HQv7 HQv4 HQv3 kc HR HD1 HD2 HD3 HD4 HD5
   cases d2 <;> cases d4 <;> cases d5 <;> rfl
end Go.Proofs.YtcpcojgmmpnkoaaGreatDoor

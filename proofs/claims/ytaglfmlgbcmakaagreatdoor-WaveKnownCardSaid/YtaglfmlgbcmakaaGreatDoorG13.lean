/-
  word.Equal, law.Apply, law.Changes.
  Slices of laws; slices of words.
  slices.IndexFunc and slices.ContainsFunc over records of type api.Law.
  derive.Check, derive.check.
  derive.forms and its iterator: the forms of a derivation, one after the other; a failure is a panic.
-/
import Derived.Test.YtaglfmlgbcmakaaGreatDoorG12
set_option linter.all false
set_option maxRecDepth 100000
set_option maxHeartbeats 4000000
namespace Go.Proofs.YtaglfmlgbcmakaaGreatDoor
open Go.RowKit Go.Shelf
theorem wEqual_c (A A' : Option Addr) (n n' c c' : Nat) (xs ys : List Snd) (w : World) (hx : IsWord w A n c xs) (hy : IsWord w A' n' c' ys) :
  Calls Tryz.prog 23 #[.slice A n c, .slice A' n' c'] w fun e w' => e = .returned (.bool (decide (xs = ys))) ∧ Below w.heap.size w w' := by
 go_enter Tryz.func23, Tryz.ntmps23
 go_wp2_with (go_at_call 67; refine (sEqual_c A A' n n' c c' xs ys w hx hy).mono ?_; rintro e w1 ⟨rfl, hb1⟩)
 go_ret
 exact ⟨rfl, hb1⟩
def RetWE (w : World) (r : Int × List Snd) (e : Ending) (w' : World) : Prop :=
 ∃ A n c, e = .returned (.tuple #[.slice A n c, .int .i64 r.1]) ∧ IsWord w' A n c r.2 ∧ Below w.heap.size w w' ∧ ∀ ad, A = some ad → w.heap.size ≤ ad.block
theorem getLast_get {α : Type} {l : List α} {m : Nat} (h : l.length = m + 1) : l.getLast? = l[m]? := by
 rw [List.getLast?_eq_getElem?, h]; rfl
theorem applyM_words (l : LawD) (ws : List Snd) (h : (traceM l ws).1 = 0) : applyM l ws = (0, (((traceM l ws).2.map (·.2)).getLast?).getD ws) := by
 unfold applyM
 rw [if_neg (by rw [h]; simp), List.getLast?_map]
 cases (traceM l ws).2.getLast? <;> rfl
theorem trace_valid {l : LawD} {ws : List Snd} (h : (traceM l ws).1 = 0) : lcheckE l ws = 0 := by
 unfold traceM at h
 by_cases h0 : lcheckE l ws = 0
 ·exact h0
 ·rw [if_pos h0] at h; exact absurd h h0
theorem valid_len {l : LawD} {ws : List Snd} (h : lcheckE l ws = 0) : ws.length ≤ 32 := by
 unfold lcheckE at h
 by_cases h0 : lawE l = 0
 ·rw [if_pos h0] at h
  unfold wcheck at h
  rcases Nat.lt_or_ge 32 ws.length with h1 | h1
  ·rw [if_pos h1] at h; exact absurd h (by decide)
  ·exact h1
 ·rw [if_neg h0] at h; exact absurd h h0
theorem apply_c (l : LawD) (a : LawA) (A : Option Addr) (n c : Nat) (ws : List Snd) (w : World) (hl : LawAt w l a) (hw : IsWord w A n c ws) (hT : TabOK w) :
  Calls Tryz.prog 173 #[lawV l a, .slice A n c] w (RetWE w (applyM l ws)) := by
 have HL := hI hl; clear hl
 have HW := hI hw; clear hw
 have HT := hI hT; clear hT
 obtain ⟨Wb, hWb, hrb, hlb, hBb, hzb⟩ := law_box w l a
 go_enter Tryz.func173, Tryz.ntmps173
 go_wp2_with (refine load_law rfl (.tmp 2) rfl w.heap.size l a rfl hrb ?_)
 refine (trace_c l a A n c ws Wb (HL.out.below hBb rr) (HW.out.below hBb rr) (HT.out.below hBb rr)).mono ?_
 rintro e w1 ⟨A1, c1, A2, n2, c2, ps, rfl, hpl, hpw, hcw, hpp, hpd, hb1⟩
 have hB1 : Below w.heap.size w w1 := hBb.trans (hb1.mono hBb.size)
 have hwb := hBb.size
 have hn2 : (ps.map Part.val).length = n2 := by have := hcw.1; simpa using this
 have hn63 : n2 ≤ 9223372036854775807 := by have h1 := hcw.2.1; have h2 := hcw.2.2.1; unfold maxLen at h2; omega
 have HB1 := hI hB1
 have HPW := hI hpw
 have HCW := hI hcw
 have HPP := hI hpp
 have HPD := hI hpd
 have HN2 := hI hn2
 clear hWb hrb hb1 hpl hpw hcw hpp hpd hB1 hn2 hBb
 obtain ⟨er, her⟩ : ∃ er, er = (traceM l ws).1 := ⟨_, rfl⟩
 rw [← her]
 have HER := hI her; clear her
 by_cases h0 : er = 0
 case neg =>
  have h1 : (er != 0) = true := by simpa using h0
  have HM : Hid (applyM l ws = (er, [])) := by show applyM l ws = _; unfold applyM; rw [← HER.out, if_pos h0]
  clear h0
  go_wp2
  go_ret2
  exact ⟨none, 0, 0, by rw [HM.out]; rfl, by rw [HM.out]; exact Cells.nil _ _, HB1.out, fun ad h => by cases h⟩
 have h1 : (er != 0) = false := by simpa using h0
 have HM : Hid (applyM l ws = (0, ((ps.map Part.word).getLast?).getD ws)) := by show applyM l ws = _; rw [applyM_words l ws (by rw [← HER.out]; exact h0), HPW.out]
 have HN : Hid (ws.length ≤ 32) := valid_len (trace_valid (by rw [← HER.out]; exact h0))
 clear h0
 by_cases hz : 0 < n2
 ·obtain ⟨m, rfl⟩ : ∃ m, n2 = m + 1 := ⟨n2 - 1, by omega⟩
  obtain ⟨b, off, v, rfl, hbl, hv, hcell⟩ := HCW.out.at1 (k := m) (by omega)
  have hmi : (m : Int) < (m : Int) + 1 := by omega
  have hmn : ((m : Int)).toNat = m := by omega
  obtain ⟨p, hp⟩ : ∃ p, ps[m]? = some p := by
   have := HN2.out
   simp only [List.length_map] at this
   exact ⟨ps[m], List.getElem?_eq_getElem (by omega)⟩
  have hvp : v = p.val := by rw [List.getElem?_map, hp] at hv; simpa using hv.symm
  subst hvp
  have HP := hI hp
  clear hv hp
  unfold Part.val at hcell
  go_wp2
  go_ret2
  have hmem := List.mem_of_getElem? HP.out
  refine ⟨p.1, p.2.1, p.2.2.1, by rw [HM.out]; rfl, ?_, HB1.out, fun ad had => Nat.le_trans hwb (HPD.out p hmem ad had)⟩
  rw [HM.out, getLast_get (m := m) (by have := HN2.out; simpa using this), List.getElem?_map, HP.out]
  exact HPP.out p hmem
 ·obtain rfl : n2 = 0 := by omega
  have hps : ps = [] := by have := HN2.out; simpa using this
  have HM' : Hid (applyM l ws = (0, ws)) := by show applyM l ws = _; rw [HM.out, hps]; rfl
  clear hps
  go_wp2_with (go_at_call 60; refine (clone_c A n c ws w1 (HW.out.below HB1.out rr) (by have := HN.out; have := HW.out.len; omega)).mono ?_; rintro e w2 ⟨A', n', c', rfl, hw2, hb2, hf2⟩)
  go_ret2
  exact ⟨A', n', c', by rw [HM'.out]; rfl, by rw [HM'.out]; exact hw2, HB1.out.trans (hb2.mono HB1.out.size), fun ad had => Nat.le_trans HB1.out.size (hf2 ad had)⟩
structure LawR where
 l : LawD
 a : LawA
def LawR.cells (x : LawR) : List Value := (lawCs x.l x.a).toList
theorem LawR.len (x : LawR) : x.cells.length = 18 := rfl
def IsLaws (w : World) (A : Option Addr) (n c : Nat) (xs : List LawR) : Prop := Recs LawR.cells 18 w A n c xs ∧ ∀ x ∈ xs, LawAt w x.l x.a
section laws
variable {w w' : World} {A : Option Addr} {n c : Nat} {xs : List LawR}
theorem IsLaws.below (h : IsLaws w A n c xs) {B : Nat} (hb : Below B w w') (hB : w.heap.size ≤ B) : IsLaws w' A n c xs := ⟨h.1.below hb hB, fun x hx => (h.2 x hx).below hb hB⟩
theorem IsLaws.len (h : IsLaws w A n c xs) : xs.length = n := h.1.2
theorem IsLaws.max (h : IsLaws w A n c xs) : n ≤ c ∧ c ≤ 9223372036854775807 := by have h1 := h.1.1.2.1; have h2 := h.1.1.2.2.1; unfold maxLen at h2; omega
theorem IsLaws.at_ (h : IsLaws w A n c xs) {k : Nat} {x : LawR} (hx : xs[k]? = some x) : ∃ b off, A = some ⟨b, off, none⟩ ∧ b < w.heap.size ∧ w.rangeAt b (off + k * 18) x.cells := by
 obtain ⟨b, off, hA, hb, hc⟩ := h.1.at_ LawR.len (by decide) hx
 exact ⟨b, off, hA, hb, fun j v hv => by rw [Nat.add_assoc]; exact hc j v hv⟩
theorem IsLaws.get (h : IsLaws w A n c xs) {k : Nat} (hk : k < n) : ∃ x, xs[k]? = some x := ⟨xs[k]'(by rw [h.len]; exact hk), List.getElem?_eq_getElem _⟩
theorem IsLaws.drop (h : IsLaws w A n c xs) {k : Nat} (hk : k ≤ n) : IsLaws w (if c = k then A else A.map (·.add (k * 18))) (n - k) (c - k) (xs.drop k) :=
 ⟨h.1.drop LawR.len hk, fun x hx => h.2 x (List.mem_of_mem_drop hx)⟩
theorem IsLaws.take (h : IsLaws w A n c xs) {k : Nat} (hk : k ≤ n) : IsLaws w A k c (xs.take k) := ⟨h.1.take LawR.len hk, fun x hx => h.2 x (List.mem_of_mem_take hx)⟩
end laws
theorem law_lsize (l : LawD) (a : LawA) : (Tryz.prog.info? 55).map (·.size) = some (lawCs l a).toList.length := by rw [Array.length_toList]; exact law_size l a
theorem run_load_lawM {w : World} {b o : Nat} {x : LawR} (hr : w.rangeAt b o x.cells) : (loadVar 55 ⟨b, o, none⟩).run Tryz.prog w = .ok (lawV x.l x.a) w :=
 run_loadVar_mid w b o 55 (lawCs x.l x.a).toList _ hr Tryz.underlying55 rfl (law_lsize x.l x.a)
theorem load_lawM {ops : Array Oper} {rest : List Oper} {op : Oper} {ac : Act} {w : World} {Q : Exit → Act → World → Prop} (hgd : op.guard = none) (x : Operand) (ho : op.op = .load 55 x)
  (b o : Nat) (s : LawR) (hx : ac.eval x = .pointer (some ⟨b, o, none⟩)) (hr : w.rangeAt b o s.cells) (h : wpList Tryz.prog ops Q rest (ac.put op.dst (lawV s.l s.a)) w) : wpList Tryz.prog ops Q (op :: rest) ac w := by
 refine wpList_plain hgd fun K hK => ?_
 unfold Oper.wp execOp
 simp only [ho, hx, Instr.loadAt, Instr.sureAddr, Sem.run_bind, Sem.run_pure, Result.andThen_ok, run_load_lawM hr]
 exact hK _ _ h
theorem load_lawMIn {F : Fence} {n : Nat} {ops : Array Oper} {rest : List Oper} {op : Oper} {ac : Act} {w : World} {Q : Exit → Act → World → Prop} (hgd : op.guard = none) (x : Operand) (ho : op.op = .load 55 x)
  (b o : Nat) (s : LawR) (hx : ac.eval x = .pointer (some ⟨b, o, none⟩)) (hr : w.rangeAt b o s.cells) (h : wpListIn F n Tryz.prog ops Q rest (ac.put op.dst (lawV s.l s.a)) w) : wpListIn F n Tryz.prog ops Q (op :: rest) ac w := by
 refine wpListIn_plain hgd fun K hK => ?_
 unfold Oper.wpIn
 refine ⟨by simp [Oper.about, ho], ?_⟩
 rw [Oper.semAt_plain F _ _ (by rw [ho]; intro c hc'; cases hc')]
 unfold execOp
 simp only [ho, hx, Instr.loadAt, Instr.sureAddr, Sem.run_bind, Sem.run_pure, Result.andThen_ok, run_load_lawM hr]
 exact hK _ _ h
theorem law_all (l : LawD) (a : LawA) : (lawCs l a).all (·.oneCell') = true := law_one l a
theorem store_lawIn {F : Fence} {n : Nat} {ops : Array Oper} {rest : List Oper} {op : Oper} {ac : Act} {w : World} {Q : Exit → Act → World → Prop} (hgd : op.guard = none) (x y : Operand) (ho : op.op = .store 55 x y)
  (b : Nat) (l : LawD) (a : LawA) (hx : ac.eval x = .pointer (some ⟨b, 0, none⟩)) (hy : ac.eval y = lawV l a) {old : Array Value} {t : TypeId} (hr : w.heap[b]? = some (.cells old t (0, 0))) (hs : old.size = 18)
  (h : ∀ W, W.heap[b]? = some (.cells (lawCs l a) t (0, 0)) → Keep (fun k => k = b) w W → W.heap.size = w.heap.size → wpListIn F n Tryz.prog ops Q rest (ac.put op.dst undef) W) : wpListIn F n Tryz.prog ops Q (op :: rest) ac w := by
 have h' := h (w.setRow b (lawCs l a)) (setRow_heap w b old _ t _ hr) ⟨rfl, rfl, rfl, by simp [World.setRow], fun k _ hk => setRow_other w b k _ hk⟩ (by simp [World.setRow])
 refine wpListIn_plain hgd fun K hK => ?_
 unfold Oper.wpIn
 refine ⟨by simp [Oper.about, ho], ?_⟩
 rw [Oper.semAt_plain F _ _ (by rw [ho]; intro c hc'; cases hc')]
 unfold execOp
 simp only [ho, hx, hy, Instr.storeAt, Instr.sureAddr, Sem.run_bind, Sem.run_pure, Result.andThen_ok, run_storeVar_row w b t 55 old (lawCs l a) hr (law_size l a) (by rw [lawCs_size]; exact hs) (law_one l a)]
 exact hK _ _ h'
theorem store_law {ops : Array Oper} {rest : List Oper} {op : Oper} {ac : Act} {w : World} {Q : Exit → Act → World → Prop} (hgd : op.guard = none) (x y : Operand) (ho : op.op = .store 55 x y)
  (b : Nat) (l : LawD) (a : LawA) (hx : ac.eval x = .pointer (some ⟨b, 0, none⟩)) (hy : ac.eval y = lawV l a) {old : Array Value} {t : TypeId} (hr : w.heap[b]? = some (.cells old t (0, 0))) (hs : old.size = 18)
  (h : ∀ W, W.heap[b]? = some (.cells (lawCs l a) t (0, 0)) → Keep (fun k => k = b) w W → W.heap.size = w.heap.size → wpList Tryz.prog ops Q rest (ac.put op.dst undef) W) : wpList Tryz.prog ops Q (op :: rest) ac w := by
 have h' := h (w.setRow b (lawCs l a)) (setRow_heap w b old _ t _ hr) ⟨rfl, rfl, rfl, by simp [World.setRow], fun k _ hk => setRow_other w b k _ hk⟩ (by simp [World.setRow])
 exact wpList_store_row hgd 55 x y ho b (lawCs l a) hx hy t old hr (law_size l a) (by rw [lawCs_size]; exact hs) (law_one l a) h'
theorem results_cell_law {fn : Func} {p : Tmp} (h : fn.results = #[.cell p 55]) (tmps : Array Value) (w : World) (b : Nat) (l : LawD) (a : LawA) {t : TypeId} {fr : Nat × Nat} (hp : tmps.getD p undef = .pointer (some ⟨b, 0, none⟩)) (hr : w.heap[b]? = some (.cells (lawCs l a) t fr)) :
  (results fn tmps).run Tryz.prog w = .ok (lawV l a) w := by
 have hp' : tmps[p]?.getD undef = .pointer (some ⟨b, 0, none⟩) := by simpa using hp
 have hl := run_load_law hr
 simp [results, h, hp', asAddr, hl]
theorem IsWords.mk {w : World} {A : Option Addr} {n c : Nat} {ps : List Part} (h : Cells w A n c 1 (ps.map Part.val)) (hp : Parts w ps) : IsWords w A n c (ps.map Part.word) := ⟨ps, rfl, h, hp⟩
section words
variable {w w' : World} {A : Option Addr} {n c : Nat} {xss : List (List Snd)}
theorem IsWords.len (h : IsWords w A n c xss) : xss.length = n := by
 obtain ⟨ps, rfl, h, _⟩ := h
 have := h.1
 simpa using this
theorem IsWords.max (h : IsWords w A n c xss) : n ≤ c ∧ c ≤ 9223372036854775807 := by
 obtain ⟨ps, _, h, _⟩ := h
 have h1 := h.2.1; have h2 := h.2.2.1; unfold maxLen at h2; omega
theorem IsWords.below (h : IsWords w A n c xss) {B : Nat} (hb : Below B w w') (hB : w.heap.size ≤ B) : IsWords w' A n c xss := by
 obtain ⟨ps, rfl, h, hp⟩ := h
 exact ⟨ps, rfl, h.below hb hB, fun p hp' => (hp p hp').below hb hB⟩
theorem IsWords.at_ (h : IsWords w A n c xss) {k : Nat} (hk : k < n) :
  ∃ b off A' n' c' xs, A = some ⟨b, off, none⟩ ∧ b < w.heap.size ∧ w.cell? ⟨b, off + k, none⟩ = some (.slice A' n' c') ∧ xss[k]? = some xs ∧ IsWord w A' n' c' xs := by
 obtain ⟨ps, rfl, h, hp⟩ := h
 obtain ⟨b, off, v, hA, hb, hv, hc⟩ := h.at1 hk
 rw [List.getElem?_map] at hv
 cases hpk : ps[k]? with
 | none => rw [hpk] at hv; cases hv
 | some p =>
  rw [hpk] at hv
  obtain rfl : p.val = v := by simpa using hv
  exact ⟨b, off, p.1, p.2.1, p.2.2.1, p.word, hA, hb, hc, by rw [List.getElem?_map, hpk]; rfl, hp p (List.mem_of_getElem? hpk)⟩
end words
theorem IsWords.nil (w : World) : IsWords w none 0 0 [] := ⟨[], rfl, Cells.nil _ _, fun p hp => by simp at hp⟩
theorem idxLaw_c (A : Option Addr) (n c : Nat) (xs : List LawR) (F : Nat) (lb : Array Value) (p : LawR → Bool) (w : World) (hx : Recs LawR.cells 18 w A n c xs) (hE : Enters Tryz.prog F)
  (hcall : ∀ W, Below w.heap.size w W → ∀ s ∈ xs, Calls Tryz.prog F (#[lawV s.l s.a] ++ lb) W fun e W' => e = .returned (.bool (p s)) ∧ Below W.heap.size W W') :
  Calls Tryz.prog 148 #[.slice A n c, .func (.func F) #[] lb] w fun e w' => e = .returned (.int .i64 (idxM p xs)) ∧ Below w.heap.size w w' := by
 have hm : n ≤ 9223372036854775807 := by have h1 := hx.1.2.1; have h2 := hx.1.2.2.1; unfold maxLen at h2; omega
 have HX := hI hx; clear hx
 have HC := hI hcall; clear hcall
 unfold Enters at hE
 go_enter Tryz.func148, Tryz.ntmps148
 go_wp2
 go_loopw [5, 8] (fun _ i wr => ∃ k : Nat, k ≤ n ∧ i = .int .i64 k ∧ Hid ((xs.take k).any p = false) ∧ Below w.heap.size w wr) (fun _ i _ => n - (intOf i).toNat)
 case atStart => exact ⟨0, Nat.zero_le _, rfl, by simp [Hid], Below.refl _ _⟩
 case round =>
  obtain ⟨k, hk, rfl, HA, hB⟩ := hrel
  by_cases hlt : k < n
  ·obtain ⟨s, hxk⟩ : ∃ s, xs[k]? = some s := ⟨xs[k]'(by rw [HX.out.2]; exact hlt), List.getElem?_eq_getElem _⟩
   obtain ⟨b, off, rfl, hb, hcs⟩ := (HX.out.below hB rr).at_ LawR.len (by decide) hxk
   have hc0 := hcs 0 _ rfl
   have hc1 := hcs 1 _ rfl
   have hc2 := hcs 2 _ rfl
   have hc3 := hcs 3 _ rfl
   have hc4 := hcs 4 _ rfl
   have hc5 := hcs 5 _ rfl
   have hc6 := hcs 6 _ rfl
   have hc7 := hcs 7 _ rfl
   have hc8 := hcs 8 _ rfl
   have hc9 := hcs 9 _ rfl
   have hc10 := hcs 10 _ rfl
   have hc11 := hcs 11 _ rfl
   have hc12 := hcs 12 _ rfl
   have hc13 := hcs 13 _ rfl
   have hc14 := hcs 14 _ rfl
   have hc15 := hcs 15 _ rfl
   have hc16 := hcs 16 _ rfl
   have hc17 := hcs 17 _ rfl
   simp only [Nat.add_zero, ← Nat.add_assoc] at hc0 hc1 hc2 hc3 hc4 hc5 hc6 hc7 hc8 hc9 hc10 hc11 hc12 hc13 hc14 hc15 hc16 hc17
   clear hcs
   have HCALL := hI (HC.out wr hB s (List.mem_of_getElem? hxk))
   have HK := hI hxk; clear hxk
   by_cases hp : p s = true
   ·have hr := idxM_some p xs k s HK.out HA.out hp
    have HR := hI hr; clear hr
    have HP := hI hp; clear hp
    go_wp2_with fail
    refine HCALL.out.mono ?_
    rintro e w1 ⟨rfl, hb1⟩
    rw [HP.out]
    have hB1 := hB.trans (hb1.mono hB.size)
    clear hb1
    go_wp2
    go_ret
    exact ⟨by rw [HR.out]; rfl, hB1⟩
   ·have hp' : p s = false := by simpa using hp
    have HP := hI hp'; clear hp hp'
    go_wp2_with fail
    refine HCALL.out.mono ?_
    rintro e w1 ⟨rfl, hb1⟩
    rw [HP.out]
    have hB1 := hB.trans (hb1.mono hB.size)
    clear hb1
    go_wp2
    go_roundw
    case rel => exact ⟨k + 1, by omega, by go_num, by rw [take_snoc' xs k _ HK.out, List.any_append, HA.out]; simp [HP.out, Hid], hB1⟩
    case measure => simp [intOf]; omega
  ·obtain rfl : k = n := by omega
   have hr : idxM p xs = -1 := by
    have := HA.out
    rw [List.take_of_length_le (by rw [HX.out.2]; exact rr)] at this
    exact idxM_none p xs this
   have HR := hI hr; clear hr
   go_wp2
   go_ret
   exact ⟨by rw [HR.out]; rfl, hB⟩
theorem anyLaw_c (A : Option Addr) (n c : Nat) (xs : List LawR) (F : Nat) (lb : Array Value) (p : LawR → Bool) (w : World) (hx : Recs LawR.cells 18 w A n c xs) (hE : Enters Tryz.prog F)
  (hcall : ∀ W, Below w.heap.size w W → ∀ s ∈ xs, Calls Tryz.prog F (#[lawV s.l s.a] ++ lb) W fun e W' => e = .returned (.bool (p s)) ∧ Below W.heap.size W W') :
  Calls Tryz.prog 120 #[.slice A n c, .func (.func F) #[] lb] w fun e w' => e = .returned (.bool (xs.any p)) ∧ Below w.heap.size w w' := by
 have hcon := idxLaw_c A n c xs F lb p w hx hE hcall
 have H := hI (idxM_any p xs)
 clear hx hcall hE
 go_enter Tryz.func120, Tryz.ntmps120
 go_wp2_with (go_at_call 148; refine hcon.mono ?_; rintro e w1 ⟨rfl, hb1⟩)
 go_ret
 refine ⟨?_, hb1⟩
 show Ending.returned (.bool (decide (0 ≤ idxM p xs))) = _
 rw [H.out]
def lawsE (ls : List LawD) : Int := if 64 < ls.length then 12 else if ls.any (fun l => lawE l != 0) then 17 else 0
def firstE (wss : List (List Snd)) : Int := ((wss.map wcheck).find? (· != 0)).getD 0
def chkM (ls : List LawD) (wss : List (List Snd)) : Int := if lawsE ls ≠ 0 then lawsE ls else if 256 < wss.length then 12 else firstE wss
abbrev lawsD (xs : List LawR) : List LawD := xs.map LawR.l
theorem dCheck1_c (l : LawD) (a : LawA) (w : World) (hl : LawAt w l a) :
  Calls Tryz.prog 121 #[lawV l a] w fun e w' => e = .returned (.bool (lawE l != 0)) ∧ Below w.heap.size w w' := by
 have HL := hI hl; clear hl
 obtain ⟨Wb, hWb, hrb, hlb, hBb, hzb⟩ := law_box w l a
 go_enter Tryz.func121, Tryz.ntmps121
 go_wp2_with (refine load_law rfl (.tmp 1) rfl w.heap.size l a rfl hrb ?_)
 refine (lCheck_c l a Wb (HL.out.below hBb rr)).mono ?_
 rintro e w1 ⟨rfl, hb1⟩
 clear hWb hrb
 go_wp2
 go_ret
 exact ⟨rfl, hBb.trans (hb1.mono hBb.size)⟩
theorem dCheck_c (A : Option Addr) (n c : Nat) (xs : List LawR) (w : World) (hx : IsLaws w A n c xs) :
  Calls Tryz.prog 82 #[.slice A n c] w fun e w' => e = .returned (.int .i64 (lawsE (lawsD xs))) ∧ Below w.heap.size w w' := by
 have hm := hx.max
 have HX := hI hx; clear hx
 have hany := anyLaw_c A n c xs 121 #[] (fun x => lawE x.l != 0) w HX.out.1 (enters_of Tryz.func121 (by kernel_rfl) rfl) (fun W hB s hs => dCheck1_c s.l s.a W ((HX.out.2 s hs).below hB rr))
 have HA := hI hany; clear hany
 by_cases h64 : 64 < n
 ·have hr : lawsE (lawsD xs) = 12 := by unfold lawsE; rw [if_pos (by rw [List.length_map, HX.out.len]; exact h64)]
  have HR := hI hr; clear hr
  go_enter Tryz.func82, Tryz.ntmps82
  go_wp2
  go_ret
  exact ⟨by rw [HR.out]; rfl, Below.refl _ _⟩
 ·have hr : lawsE (lawsD xs) = if xs.any (fun x => lawE x.l != 0) then 17 else 0 := by
   unfold lawsE; rw [if_neg (by rw [List.length_map, HX.out.len]; exact h64), List.any_map]; rfl
  obtain ⟨b, hb⟩ : ∃ b, b = xs.any (fun x => lawE x.l != 0) := ⟨_, rfl⟩
  rw [← hb] at hr
  have HB := hI hb; clear hb
  have HR := hI hr; clear hr
  go_enter Tryz.func82, Tryz.ntmps82
  go_wp2_with (go_at_call 120; refine HA.out.mono ?_; rintro e w1 ⟨rfl, hb1⟩; rw [← HB.out])
  all_goals
   go_ret
   exact ⟨by rw [HR.out]; simp [*]; try rfl, hb1⟩
theorem firstE_snoc {wss : List (List Snd)} {k : Nat} {xs : List Snd} (h : wss[k]? = some xs) (h0 : (wss.take k).all (fun x => wcheck x == 0) = true) (h1 : wcheck xs ≠ 0) : firstE wss = wcheck xs := by
 unfold firstE
 rw [← List.take_append_drop k wss]
 have hk := (List.getElem?_eq_some_iff.1 h)
 obtain ⟨hk1, hk2⟩ := hk
 rw [List.drop_eq_getElem_cons hk1, hk2, List.map_append, List.find?_append]
 have : ((wss.take k).map wcheck).find? (· != 0) = none := by
  rw [List.find?_eq_none]
  intro x hx
  obtain ⟨y, hy, rfl⟩ := List.mem_map.1 hx
  have := List.all_eq_true.1 h0 y hy
  simpa using this
 rw [this, List.map_cons, List.find?_cons]
 have h2 : (wcheck xs != 0) = true := by simpa using h1
 rw [h2]
 rfl
theorem firstE_none {wss : List (List Snd)} (h0 : wss.all (fun x => wcheck x == 0) = true) : firstE wss = 0 := by
 unfold firstE
 have : (wss.map wcheck).find? (· != 0) = none := by
  rw [List.find?_eq_none]
  intro x hx
  obtain ⟨y, hy, rfl⟩ := List.mem_map.1 hx
  have := List.all_eq_true.1 h0 y hy
  simpa using this
 rw [this]; rfl
theorem dcheck_c (A : Option Addr) (n c : Nat) (xs : List LawR) (A' : Option Addr) (n' c' : Nat) (wss : List (List Snd)) (w : World) (hx : IsLaws w A n c xs) (hw : IsWords w A' n' c' wss) :
  Calls Tryz.prog 65 #[.slice A n c, .slice A' n' c'] w fun e w' => e = .returned (.int .i64 (chkM (lawsD xs) wss)) ∧ Below w.heap.size w w' := by
 have hm := hx.max
 have hm' := hw.max
 have HX := hI hx; clear hx
 have HW := hI hw; clear hw
 have hcall := dCheck_c A n c xs w HX.out
 have HC := hI hcall; clear hcall
 obtain ⟨er, her⟩ : ∃ er, er = lawsE (lawsD xs) := ⟨_, rfl⟩
 have HER := hI her; clear her
 by_cases h0 : er = 0
 case neg =>
  have h1 : (er != 0) = true := by simpa using h0
  have hr : chkM (lawsD xs) wss = er := by unfold chkM; rw [← HER.out, if_pos h0]
  have HR := hI hr; clear hr h0
  go_enter Tryz.func65, Tryz.ntmps65
  go_wp2_with (go_at_call 82; refine HC.out.mono ?_; rintro e w1 ⟨rfl, hb1⟩; rw [← HER.out])
  go_ret
  exact ⟨by rw [HR.out]; rfl, hb1⟩
 have h1 : (er != 0) = false := by simpa using h0
 have hr : chkM (lawsD xs) wss = if 256 < wss.length then 12 else firstE wss := by unfold chkM; rw [← HER.out, if_neg (by simpa using h0)]
 rw [HW.out.len] at hr
 have HR := hI hr; clear hr h0
 by_cases h256 : 256 < n'
 ·go_enter Tryz.func65, Tryz.ntmps65
  go_wp2_with (go_at_call 82; refine HC.out.mono ?_; rintro e w1 ⟨rfl, hb1⟩; rw [← HER.out])
  go_ret
  exact ⟨by rw [HR.out, if_pos h256]; rfl, hb1⟩
 go_enter Tryz.func65, Tryz.ntmps65
 go_wp2_with (go_at_call 82; refine HC.out.mono ?_; rintro e w1 ⟨rfl, hb1⟩; rw [← HER.out])
 have HB1 := hI hb1; clear hb1
 go_loopw [8, 19] (fun _ i wr => ∃ k : Nat, k ≤ n' ∧ i = .int .i64 k ∧ Hid ((wss.take k).all (fun x => wcheck x == 0) = true) ∧ Below w.heap.size w wr) (fun _ i _ => n' - (intOf i).toNat)
 case atStart => exact ⟨0, Nat.zero_le _, rfl, by simp [Hid], HB1.out⟩
 case round =>
  obtain ⟨k, hk, rfl, hall, hB⟩ := hrel
  by_cases hlt : k < n'
  ·obtain ⟨b, off, A1, n1, c1, ws, rfl, hb, hc, hwk, hws⟩ := (HW.out.below hB rr).at_ hlt
   have HWK := hI hwk; clear hwk
   obtain ⟨e1, he1⟩ : ∃ e1, e1 = wcheck ws := ⟨_, rfl⟩
   have HE1 := hI he1; clear he1
   have hcw := hI (wCheck_c A1 n1 c1 ws wr hws)
   clear hws
   by_cases hz : e1 = 0
   ·have hz1 : (e1 != 0) = false := by simpa using hz
    have HZ := hI hz; clear hz
    go_wp2_with (go_at_call 46; refine hcw.out.mono ?_; rintro e w2 ⟨rfl, hb2⟩; rw [← HE1.out])
    go_roundw
    case rel => exact ⟨k + 1, by omega, by go_num, by show List.all _ _ = true; rw [take_snoc' wss k ws HWK.out, List.all_append, hall.out]; simp [← HE1.out, HZ.out], hB.trans (hb2.mono hB.size)⟩
    case measure => simp [intOf]; omega
   ·have hz1 : (e1 != 0) = true := by simpa using hz
    have hf : firstE wss = e1 := by rw [HE1.out]; exact firstE_snoc HWK.out hall.out (by rw [← HE1.out]; exact hz)
    have HF := hI hf; clear hf hz
    go_wp2_with (go_at_call 46; refine hcw.out.mono ?_; rintro e w2 ⟨rfl, hb2⟩; rw [← HE1.out])
    go_ret
    exact ⟨by rw [HR.out, if_neg h256, HF.out]; rfl, hB.trans (hb2.mono hB.size)⟩
  ·obtain rfl : k = n' := by omega
   have hf : firstE wss = 0 := firstE_none (by have := hall.out; rwa [List.take_of_length_le (by rw [HW.out.len]; exact rr)] at this)
   have HF := hI hf; clear hf
   go_wp2
   go_ret
   exact ⟨by rw [HR.out, if_neg h256, HF.out]; rfl, hB⟩
end Go.Proofs.YtaglfmlgbcmakaaGreatDoor
namespace Go.Proofs.YtaglfmlgbcmakaaGreatDoor
open Go.RowKit Go.Shelf
attribute [local go_sem] Oper.semAt_some
def formsM : List LawD → List Snd → Int × List (List Snd)
 | [], ws => (0, [ws])
 | l :: ls, ws => if (applyM l ws).1 ≠ 0 then ((applyM l ws).1, [ws]) else ((formsM ls (applyM l ws).2).1, ws :: (formsM ls (applyM l ws).2).2)
def FormSt (ls : List LawD) (ws : List Snd) (k : Nat) (x : List Snd) : Prop :=
 formsM ls ws = ((formsM (ls.drop k) x).1, (formsM ls ws).2.take k ++ (formsM (ls.drop k) x).2) ∧ k < (formsM ls ws).2.length
theorem formsM_pos (ls : List LawD) (ws : List Snd) : ∃ r, (formsM ls ws).2 = ws :: r := by
 cases ls with
 | nil => exact ⟨[], rfl⟩
 | cons l ls =>
  unfold formsM
  split
  ·exact ⟨[], rfl⟩
  ·exact ⟨_, rfl⟩
theorem FormSt.start (ls : List LawD) (ws : List Snd) : FormSt ls ws 0 ws := by
 refine ⟨by simp, ?_⟩
 obtain ⟨r, hr⟩ := formsM_pos ls ws
 rw [hr]; simp
theorem FormSt.get {ls : List LawD} {ws x : List Snd} {k : Nat} (h : FormSt ls ws k x) : (formsM ls ws).2[k]? = some x := by
 obtain ⟨r, hr⟩ := formsM_pos (ls.drop k) x
 have h1 := congrArg Prod.snd h.1
 rw [hr] at h1
 dsimp only at h1
 rw [h1, List.getElem?_append_right (by rw [List.length_take]; omega), List.length_take, Nat.min_eq_left (by have := h.2; omega), Nat.sub_self]
 rfl
theorem FormSt.step {ls : List LawD} {ws x : List Snd} {k : Nat} {l : LawD} (h : FormSt ls ws k x) (hl : ls[k]? = some l) (h0 : (applyM l x).1 = 0) : FormSt ls ws (k + 1) (applyM l x).2 := by
 obtain ⟨hk, hk'⟩ := List.getElem?_eq_some_iff.1 hl
 have hd : ls.drop k = l :: ls.drop (k + 1) := by rw [List.drop_eq_getElem_cons hk, hk']
 have hg := h.get
 obtain ⟨h1, h2⟩ := h
 rw [hd] at h1
 have e : formsM (l :: ls.drop (k + 1)) x = ((formsM (ls.drop (k + 1)) (applyM l x).2).1, x :: (formsM (ls.drop (k + 1)) (applyM l x).2).2) := by
  rw [formsM, if_neg (by rw [h0]; simp)]
 rw [e] at h1
 have e2 : (formsM ls ws).2.take (k + 1) = (formsM ls ws).2.take k ++ [x] := take_snoc' _ _ _ hg
 have h3 : formsM ls ws = ((formsM (ls.drop (k + 1)) (applyM l x).2).1, (formsM ls ws).2.take (k + 1) ++ (formsM (ls.drop (k + 1)) (applyM l x).2).2) := by
  rw [e2, List.append_assoc]; exact h1
 refine ⟨h3, ?_⟩
 obtain ⟨r, hr⟩ := formsM_pos (ls.drop (k + 1)) (applyM l x).2
 have h4 := congrArg (fun y => y.2.length) h3
 dsimp only at h4
 rw [hr, List.length_append, List.length_take] at h4
 simp only [List.length_cons] at h4
 omega
theorem FormSt.fail {ls : List LawD} {ws x : List Snd} {k : Nat} {l : LawD} (h : FormSt ls ws k x) (hl : ls[k]? = some l) (h0 : (applyM l x).1 ≠ 0) : (formsM ls ws).1 = (applyM l x).1 ∧ (formsM ls ws).2.length = k + 1 := by
 obtain ⟨hk, hk'⟩ := List.getElem?_eq_some_iff.1 hl
 have hd : ls.drop k = l :: ls.drop (k + 1) := by rw [List.drop_eq_getElem_cons hk, hk']
 obtain ⟨h1, h2⟩ := h
 rw [hd] at h1
 have e : formsM (l :: ls.drop (k + 1)) x = ((applyM l x).1, [x]) := by rw [formsM, if_pos h0]
 rw [e] at h1
 refine ⟨congrArg Prod.fst h1, ?_⟩
 have h4 := congrArg (fun y => y.2.length) h1
 dsimp only at h4
 rw [List.length_append, List.length_take] at h4
 simp only [List.length_cons, List.length_nil] at h4
 omega
theorem FormSt.fin {ls : List LawD} {ws x : List Snd} (h : FormSt ls ws ls.length x) : (formsM ls ws).1 = 0 ∧ (formsM ls ws).2.length = ls.length + 1 := by
 obtain ⟨h1, h2⟩ := h
 rw [List.drop_length] at h1
 refine ⟨congrArg Prod.fst h1, ?_⟩
 have h4 := congrArg (fun y => y.2.length) h1
 dsimp only [formsM] at h4
 rw [List.length_append, List.length_take] at h4
 simp only [List.length_cons, List.length_nil] at h4
 omega
def RetForms (w : World) (A : Option Addr) (n c : Nat) (A' : Option Addr) (n' c' : Nat) (e : Ending) (w' : World) : Prop :=
 ∃ bw bl : Nat, e = .returned (.func (.func 172) #[] #[.pointer (some ⟨bw, 0, none⟩), .pointer (some ⟨bl, 0, none⟩)]) ∧
  w'.heap[bl]? = some (.cells #[.slice A n c] 26 (0, 0)) ∧ w'.heap[bw]? = some (.cells #[.slice A' n' c'] 28 (0, 0)) ∧ w.heap.size ≤ bw ∧ w.heap.size ≤ bl ∧ Below w.heap.size w w'
theorem forms_c (A : Option Addr) (n c : Nat) (A' : Option Addr) (n' c' : Nat) (w : World) : Calls Tryz.prog 145 #[.slice A n c, .slice A' n' c'] w (RetForms w A n c A' n' c') := by
 go_enter Tryz.func145, Tryz.ntmps145
 go_wp2
 go_ret
 exact ⟨w.heap.size + 1, w.heap.size, rfl, hpt, hpt, by omega, rr, bel⟩
structure FormsUse (lr bw bl : Nat) (A : Option Addr) (n c : Nat) (xs : List LawR) (Aw : Option Addr) (nw cw : Nat) (ws : List Snd) (B : Nat) (J : Nat → (Nat → Prop) → World → Prop) : Prop where
 hB : ∀ i T W, J i T W → B ≤ W.heap.size
 hlt : ∀ i T W, J i T W → ∀ k, T k → k < W.heap.size
 hst : ∀ i T W W', J i T W → Below W.heap.size W W' → J i T W'
 hrd : ∀ i T W, J i T W → W.heap[bl]? = some (.cells #[.slice A n c] 26 (0, 0)) ∧ W.heap[bw]? = some (.cells #[.slice Aw nw cw] 28 (0, 0)) ∧ IsLaws W A n c xs ∧ IsWord W Aw nw cw ws ∧ TabOK W
 hy : ∀ i T W A' n' c' x, (formsM (lawsD xs) ws).2[i]? = some x → IsWord W A' n' c' x → (∀ ad, A' = some ad → B ≤ ad.block ∧ ¬ T ad.block) → J i T W → YieldAt Fence.wide 0 Tryz.prog lr #[.int .i64 i, .slice A' n' c'] W (fun e W'' =>
  e = .returned (.bool true) ∧ ∃ T', J (i + 1) T' W'' ∧ Keep T W W'' ∧ ∀ k, T' k → T k ∨ W.heap.size ≤ k)
def FormsEnd (r : Int × List (List Snd)) (J : Nat → (Nat → Prop) → World → Prop) (e : Ending) (W' : World) : Prop :=
 (∃ T, J r.2.length T W') ∧ ((r.1 = 0 ∧ ∃ v, e = .returned v) ∨ (r.1 ≠ 0 ∧ e = .panicked [{ v := .iface 196 (.int .i64 r.1), recovered := false }]))
theorem forms1_iter (m lr bw bl : Nat) (hm : 1 ≤ m) (A : Option Addr) (n c : Nat) (xs : List LawR) (Aw : Option Addr) (nw cw : Nat) (ws : List Snd) (W : World) (J : Nat → (Nat → Prop) → World → Prop) (T0 : Nat → Prop) (B : Nat)
  (H : FormsUse lr bw bl A n c xs Aw nw cw ws B J) (h0 : J 0 T0 W) (hnw : nw ≤ 4096) :
  CallsIn Fence.wide m Tryz.prog 172 #[.func (.yield lr) #[] #[], .pointer (some ⟨bw, 0, none⟩), .pointer (some ⟨bl, 0, none⟩)] W (FormsEnd (formsM (lawsD xs) ws) J) := by
 have hT0 := H.hlt _ _ _ h0
 have hB0 := H.hB _ _ _ h0
 obtain ⟨r1, r2, r3, r4, r5⟩ := H.hrd _ _ _ h0
 have e2 := cell_of_one r2
 have HU := hI H; clear H
 have H0 := hI h0; clear h0
 have hmx := r3.max
 have hxl := r3.len
 have HXL := hI hxl; clear hxl
 have hcl := clone_c Aw nw cw ws W r4 hnw
 have HCL := hI hcl; clear hcl
 clear r1 r2 r3 r4 r5
 refine callsIn_of_wp Tryz.func172 rfl trivial ?_
 simp only [Tryz.ntmps172, List.size_toArray, List.length_cons, List.length_nil, Nat.reduceAdd, Nat.reduceSub, Array.replicate_succ, Array.replicate_zero, List.push_toArray, List.append_toArray, List.nil_append, List.cons_append]
 gi_wp2
 refine ⟨trivial, ?_⟩
 refine (callsIn_wide.2 HCL.out).mono ?_
 rintro e w1 ⟨A1, n1, c1, rfl, hw1, hb1, hf1⟩
 have hb1s := hb1.size
 have HJ1 := hI (HU.out.hst _ _ _ _ H0.out hb1)
 obtain ⟨fn, tmps, assign, body, hyr, hR⟩ := yield_any (m' := m - 1) (HU.out.hy 0 T0 _ A1 n1 c1 ws (FormSt.start _ _).get hw1 (fun ad had => ⟨by have := hf1 ad had; omega, fun hT => by have := hf1 ad had; have := hT0 _ hT; omega⟩) HJ1.out)
 rw [show ((0 : Nat) : Int) = 0 from rfl] at hyr
 have HR := hI hR; clear hR
 have HW1 := hI hw1; clear hw1
 have HF1 := hI hf1; clear hf1
 clear hb1 e2
 gi_wp2
 refine HR.out.mono ?_
 rintro e W2 ⟨rfl, T2, hJ2, hK2, hT2⟩
 have hw2 := hI (HW1.out.keep hK2 (fun hn ad had hT => by have := HF1.out ad had; have := hT0 _ hT; omega))
 have HJ2 := hI hJ2
 obtain ⟨q1, q2, q3, q4, q5⟩ := HU.out.hrd _ _ _ hJ2
 have e3 := cell_of_one q1
 clear hyr hK2 hT2 hJ2 q1 q2 q3 q4 q5
 gi_wp2
 clear e3
 gi_loopw [4, 17] (fun wv i wr => ∃ (k : Nat) (x : List Snd) (A1 : Option Addr) (n1 c1 : Nat) (T : Nat → Prop), i = .int .i64 k ∧ k ≤ n ∧ wv = .slice A1 n1 c1 ∧ Hid (IsWord wr A1 n1 c1 x) ∧ Hid (J (k + 1) T wr) ∧ Hid (FormSt (lawsD xs) ws k x))
  (fun _ i _ => n - (intOf i).toNat)
 case atStart => exact ⟨0, ws, A1, n1, c1, T2, rfl, Nat.zero_le _, rfl, hw2, HJ2, FormSt.start _ _⟩
 case round =>
  obtain ⟨k, x, Ax, nx, cx, T, rfl, hk, rfl, hwx, HJ, hst⟩ := hrel
  obtain ⟨q1, q2, q3, q4, q5⟩ := HU.out.hrd _ _ _ HJ.out
  by_cases hlt : k < n
  ·obtain ⟨s, hs⟩ := q3.get hlt
   obtain ⟨b, off, rfl, hbl, hrg⟩ := q3.at_ hs
   have hsl : (lawsD xs)[k]? = some s.l := by rw [List.getElem?_map, hs]; rfl
   have hla := q3.2 s (List.mem_of_getElem? hs)
   have HSL := hI hsl; clear hsl
   have HRG := hI hrg; clear hrg
   have HLA := hI hla; clear hla hs
   have HQ5 := hI q5
   clear q1 q2 q3 q4 q5
   gi_wp2_with (first | (refine load_lawMIn rfl (.tmp 20) rfl b (off + k * 18) s rfl HRG.out ?_) | (refine store_lawIn rfl (.tmp 6) (.tmp 21) rfl wr.heap.size s.l s.a rfl rfl (t := 55) (heap_new_at rfl) rfl ?_; intro W3 g1 g2 g3) | (refine load_lawIn rfl (.tmp 6) rfl wr.heap.size s.l s.a rfl (by assumption) ?_))
   have hB3 : Below wr.heap.size wr W3 := ((Below.refl wr.heap.size wr).alloc rr _).trans (g2.to_below (B := wr.heap.size) (fun k hk => by subst hk; exact rr) (by simp))
   have G1 := hI g1
   clear g1 g2
   have g3' := Nat.le_of_eq g3
   have HB3 := hI hB3; clear hB3 g3
   refine ⟨trivial, ?_⟩
   refine (callsIn_wide.2 (apply_c s.l s.a Ax nx cx x W3 (HLA.out.below HB3.out rr) (hwx.out.below HB3.out rr) (HQ5.out.below HB3.out rr))).mono ?_
   rintro e w4 ⟨A4, n4, c4, rfl, hw4, hb4, hf4⟩
   have hB4 : Below wr.heap.size wr w4 := HB3.out.trans (hb4.mono HB3.out.size)
   have HJ4 := hI (HU.out.hst _ _ _ _ HJ.out hB4)
   have hf4' : ∀ ad, A4 = some ad → B ≤ ad.block ∧ ¬ T ad.block := fun ad had => ⟨by have h1 := hf4 ad had; have h2 := HU.out.hB _ _ _ HJ.out; have h3 := HB3.out.size; omega, fun hT => by have h1 := hf4 ad had; have h2 := HU.out.hlt _ _ _ HJ.out _ hT; have h3 := HB3.out.size; omega⟩
   have HW4 := hI hw4; clear hw4
   have HF4 := hI hf4'; clear hf4' hf4 hb4 hB4
   obtain ⟨er, her⟩ : ∃ er, er = (applyM s.l x).1 := ⟨_, rfl⟩
   rw [← her]
   have HER := hI her; clear her
   by_cases hz : er = 0
   case neg =>
    have hz1 : (er != 0) = true := by simpa using hz
    have hend := hst.out.fail HSL.out (by rw [← HER.out]; exact hz)
    rw [← HER.out] at hend
    have HEND := hI hend
    have HZ := hI hz
    clear hend hz
    gi_wp2
    refine ⟨rfl, ⟨T, by rw [HEND.out.2]; exact HJ4.out⟩, .inr ⟨by rw [HEND.out.1]; exact HZ.out, by rw [HEND.out.1]⟩⟩
   have hz1 : (er != 0) = false := by simpa using hz
   have hst' := hst.out.step HSL.out (by rw [← HER.out]; exact hz)
   have HST := hI hst'; clear hst' hz
   obtain ⟨fn', tmps', assign', body', hyr, hR⟩ := yield_any (m' := m - 1) (HU.out.hy (k + 1) T _ A4 n4 c4 (applyM s.l x).2 HST.out.get HW4.out HF4.out HJ4.out)
   rw [show ((k + 1 : Nat) : Int) = (k : Int) + 1 by omega] at hyr
   have HR := hI hR; clear hR
   gi_wp2
   refine HR.out.mono ?_
   rintro e W5 ⟨rfl, T5, hJ5, hK5, hT5⟩
   have hw5 := hI (HW4.out.keep hK5 (fun hn ad had hT => (HF4.out ad had).2 hT))
   have HJ5 := hI hJ5
   clear hyr hK5 hT5 hJ5
   gi_wp2
   go_roundw
   case rel => exact ⟨k + 1, (applyM s.l x).2, A4, n4, c4, T5, by go_num, by omega, rfl, hw5, HJ5, HST⟩
   case measure => simp [intOf]; omega
  ·obtain rfl : k = n := by omega
   have hend := hst.out
   rw [show k = (lawsD xs).length by rw [List.length_map, HXL.out]] at hend
   have HEND := hI hend.fin
   clear hend q1 q2 q3 q4 q5
   gi_wp2
   refine bodyPost_ret (v := .tuple #[]) (by simp [results, Tryz.results172, go_sem]) rfl ⟨⟨T, ?_⟩, .inl ⟨HEND.out.1, _, rfl⟩⟩
   rw [HEND.out.2, List.length_map, HXL.out]; exact HJ.out
end Go.Proofs.YtaglfmlgbcmakaaGreatDoor

/-
  slices.DeleteFunc over sounds; paradigm.Grades.
  paradigm.Grades.
-/
import Derived.Lib.SliceRun
import Derived.Test.YtlgliddhideflaaGreatDoorG62
set_option linter.all false
set_option maxRecDepth 100000
set_option maxHeartbeats 4000000
namespace Go.Proofs.YtlgliddhideflaaGreatDoor
open Go.RowKit Go.Shelf
theorem pGrades1_c (s : Snd) (cp cm : Int) (bp : Nat) (w : World) (hb : w.heap[bp]? = some (.cells #[.int .u32 cp, .int .u32 cm] 24 (0, 0))) :
  Calls Tryz.prog 94 #[sndV s.1 s.2, .pointer (some ⟨bp, 0, none⟩)] w fun e w' => e = .returned (.bool (!fsat s.1 s.2 cp cm)) ∧ Below w.heap.size w w' := by
 have h0 : w.cell? ⟨bp, 0, none⟩ = some (.int .u32 cp) := cell_at_heap hb rfl
 have h1 : w.cell? ⟨bp, 1, none⟩ = some (.int .u32 cm) := cell_at_heap hb rfl
 have hlt := lt_of_block hb
 clear hb
 go_enter Tryz.func94, Tryz.ntmps94
 go_wp2_with fail
 have hb1 : Below w.heap.size w (w.alloc (.cells #[.int .u32 s.1, .int .u32 s.2] 24)) := bel
 refine (fSat_c s.1 s.2 cp cm _).mono ?_
 rintro e w1 ⟨rfl, hb2⟩
 go_wp2
 go_ret
 exact ⟨rfl, hb1.trans (hb2.mono hb1.size)⟩
theorem run_clear_snds (w : World) (b o n c : Nat) (hn : 0 < n) (h : w.there b o (n * 2)) :
  ∃ vs : List Value, vs.length = n * 2 ∧ ∀ ty, (Builtin.clear_ #[32] ty #[.slice (some ⟨b, o, none⟩) n c]).run Tryz.prog w = .ok (.tuple #[]) (w.setCells b o vs) := by
 have hv : (zeroValue 24).run Tryz.prog w = .ok (.agg #[.int .u32 0, .int .u32 0]) w := by kernel_rfl
 refine ⟨(Builtin.zeroCells (Value.agg #[.int .u32 0, .int .u32 0]).cells n).toList, by simp [Builtin.zeroCells, Value.cells], fun ty => ?_⟩
 have hst := Go.run_storeCells_cells (P := Tryz.prog) b o (Builtin.zeroCells (Value.agg #[.int .u32 0, .int .u32 0]).cells n).toList 0 w
  (by intro j hj; have := (h j (by simpa [Builtin.zeroCells, Value.cells] using hj)).1; simpa using this)
  (by intro j hj; have := (h j (by simpa [Builtin.zeroCells, Value.cells] using hj)).2; simpa using this)
  (by
   intro v hv
   simp only [Builtin.zeroCells, Value.cells, Array.toList_map, List.mem_map] at hv
   obtain ⟨i, _, rfl⟩ := hv
   rcases Nat.mod_two_eq_zero_or_one i with h | h <;> simp [h, Value.oneCell'])
 simp only [Nat.add_zero] at hst
 obtain ⟨m, rfl⟩ : ∃ m, n = m + 1 := ⟨n - 1, by omega⟩
 simp [Builtin.clear_, run_underlying Tryz.underlying32, hv, hst]
def sndC2 (s : Snd) : List Value := [.int .u32 s.1, .int .u32 s.2]
theorem sndC2_len (s : Snd) : (sndC2 s).length = 2 := rfl
theorem wcells_fm : ∀ xs : List Snd, xs.flatMap sndC2 = wcells xs
 | [] => rfl
 | s :: xs => by rw [List.flatMap_cons, wcells_fm xs]; rfl
theorem wcells_take' (xs : List Snd) (i : Nat) : (wcells xs).take (i * 2) = wcells (xs.take i) := by rw [← wcells_fm, ← wcells_fm]; exact flat_take sndC2 2 sndC2_len xs i
theorem snd_size2 (p m : Int) : (Tryz.prog.info? 24).map (·.size) = some (#[Value.int .u32 p, .int .u32 m]).size := by
 show _ = some 2
 kernel_rfl
section
variable {ops : Array Oper} {rest : List Oper} {op : Oper} {ac : Act} {w : World} {Q : Exit → Act → World → Prop}
theorem store_snd_at (hgd : op.guard = none) (x y : Operand) (ho : op.op = .store 24 x y) {base g n c : Nat} {xs : List Snd} (hown : w.ownsRow base 24 2 (.slice (some ⟨g, 0, none⟩) n c) n (xs.flatMap sndC2)) {k : Nat} (hk : k < n) (p m : Int)
  (hx : ac.eval x = .pointer (some ⟨g, k * 2, none⟩)) (hy : ac.eval y = sndV p m)
  (h : wpList Tryz.prog ops Q rest (ac.put op.dst undef) (w.setCells g (k * 2) (sndC2 (p, m)))) : wpList Tryz.prog ops Q (op :: rest) ac w :=
 wpList_store_mid hgd 24 x y ho g (k * 2) #[.int .u32 p, .int .u32 m] hx hy (own_thereL hown hk) (snd_size2 _ _) (by simp [Value.oneCell']) h
end
theorem own_clear {w : World} {B : Nat} {e : TypeId} {sz g n c : Nat} {L : List Value} (h : w.ownsRow B e sz (.slice (some ⟨g, 0, none⟩) n c) n L) {i : Nat} (hi : i ≤ n) {vs : List Value} (hv : vs.length = (n - i) * sz) :
  (w.setCells g (i * sz) vs).ownsRow B e sz (.slice (some ⟨g, 0, none⟩) i c) i (L.take (i * sz)) := by
 obtain ⟨h1, h2⟩ := h
 have hle : i * sz ≤ n * sz := Nat.mul_le_mul_right _ hi
 refine ⟨by rw [List.length_take]; omega, ?_⟩
 rcases h2 with ⟨hv0, _⟩ | ⟨g', cap, cur, hv', hb, hg, hnc, hcm, hcs, ht⟩
 ·simp at hv0
 ·injection hv' with hA _ hc
  injection hA with hA
  injection hA with hA
  subst hA hc
  have hnm : n * sz ≤ c * sz := Nat.mul_le_mul_right _ hnc
  have hsum : i * sz + vs.length = n * sz := by rw [hv, ← Nat.add_mul]; congr 1; omega
  obtain ⟨cur', q1, q2, q3⟩ := heap_setCells_same g e (0, 0) vs (i * sz) w cur hg (by omega)
  refine Or.inr ⟨g, c, cur', rfl, hb, q1, by omega, hcm, by omega, ?_⟩
  rw [q3, List.append_assoc, List.take_append, List.take_of_length_le (by rw [List.length_take]; omega), List.length_take, Array.length_toList, Nat.min_eq_left (by omega), Nat.sub_self, List.take_zero, List.append_nil, ← ht, List.take_take, Nat.min_eq_left hle]
theorem own_there_from {w : World} {B : Nat} {e : TypeId} {sz g n c : Nat} {L : List Value} (h : w.ownsRow B e sz (.slice (some ⟨g, 0, none⟩) n c) n L) {i : Nat} (hi : i ≤ n) : w.there g (i * sz) ((n - i) * sz) := by
 rcases h.2 with ⟨hv0, _⟩ | ⟨g', cap, cur, hv', hb, hg, hnc, hcm, hcs, ht⟩
 ·simp at hv0
 ·injection hv' with hA _ hc
  injection hA with hA
  injection hA with hA
  subst hA hc
  have hnm : n * sz ≤ c * sz := Nat.mul_le_mul_right _ hnc
  have hsum : i * sz + (n - i) * sz = n * sz := by rw [← Nat.add_mul]; congr 1; omega
  intro j hj
  have hlt : i * sz + j < cur.size := by omega
  refine ⟨?_, frozen_of_row w g _ _ _ hg⟩
  rw [cell_at_heap hg (Array.getElem?_eq_getElem hlt)]; rfl
theorem cloneOwn_c (A : Option Addr) (n c : Nat) (xs : List Snd) (w : World) (hx : IsWord w A n c xs) (hb : n ≤ 4096) :
  Calls Tryz.prog 61 #[.slice A n c] w fun e w' => ∃ v, e = .returned v ∧ w'.ownsRow w.heap.size 24 2 v n (wcells xs) ∧ Below w.heap.size w w' := by
 have HX := hI hx; clear hx
 cases A with
 | none =>
  have hc0 : c = 0 := HX.out.2.2.2.1 rfl
  have hn0 : n = 0 := by have := HX.out.2.1; omega
  subst hc0 hn0
  go_enter Tryz.func61, Tryz.ntmps61
  go_wp2
  go_ret
  obtain rfl : xs = [] := List.eq_nil_of_length_eq_zero HX.out.len
  exact ⟨_, rfl, World.ownsRow_nil _ _ _ _, Below.refl _ _⟩
 | some ad =>
  go_enter Tryz.func61, Tryz.ntmps61
  go_wp2_with (at_builtin; refine append_snd rfl (.tmp 5) (.tmp 6) rfl w.heap.size _ 0 [] rfl (World.ownsRow_made w #[] 0 rr (by simp [maxLen]) rfl) (some ad) n c xs rfl (HX.out.below (B := w.heap.size) bel rr) (by omega) (by simp) ?_; intro v1 w1 hown1 hg1 _)
  go_ret
  exact ⟨_, rfl, by simpa using hown1, own_below (B := w.heap.size) bel (World.ownsRow_made (e := 24) (size := 2) w #[] 0 rr (by simp [maxLen]) rfl) hg1 rr (by simp)⟩
theorem idxM_cases {α : Type} (p : α → Bool) (l : List α) : (l.any p = false ∧ idxM p l = -1) ∨ ∃ (k : Nat) (x : α), l[k]? = some x ∧ (l.take k).any p = false ∧ p x = true ∧ idxM p l = k := by
 induction l with
 | nil => exact .inl ⟨rfl, rfl⟩
 | cons y l ih =>
  cases hy : p y with
  | true => exact .inr ⟨0, y, rfl, rfl, hy, by simp [idxM, hy]⟩
  | false =>
   rcases ih with ⟨h1, h2⟩ | ⟨k, x, h1, h2, h3, h4⟩
   ·exact .inl ⟨by simp [hy, h1], by simp [idxM, hy, h2]⟩
   ·exact .inr ⟨k + 1, x, by simpa using h1, by simp [hy, h2], h3, by rw [idxM, hy, h4]; simp; omega⟩
theorem filter_none {α : Type} {p : α → Bool} {l : List α} (h : l.any p = false) : l.filter (fun x => !p x) = l := by
 rw [List.filter_eq_self]
 intro x hx
 have := List.any_eq_false.1 h x hx
 simpa using this
def RetDel (w : World) (B : Nat) (v : Value) (L : List Snd) (e : Ending) (w' : World) : Prop :=
 ∃ v' m, e = .returned v' ∧ w'.ownsRow B 24 2 v' m (wcells L) ∧ v'.ownBlock = v.ownBlock ∧ Keep (fun k => v.ownBlock = some k) w w'
theorem delSnd_c (v : Value) (n B : Nat) (ws : List Snd) (cp cm : Int) (bp : Nat) (w : World) (hown : w.ownsRow B 24 2 v n (wcells ws)) (hn : n ≤ 4096) (hbox : w.heap[bp]? = some (.cells #[.int .u32 cp, .int .u32 cm] 24 (0, 0))) (hne : v.ownBlock ≠ some bp) :
  Calls Tryz.prog 96 #[v, .func (.func 94) #[] #[.pointer (some ⟨bp, 0, none⟩)]] w (RetDel w B v (ws.filter fun s => fsat s.1 s.2 cp cm)) := by
 have hE := enters_of Tryz.func94 (by kernel_rfl) rfl
 have HFLT : Hid ((fun s : Snd => fsat s.1 s.2 cp cm) = fun s => !(!fsat s.1 s.2 cp cm)) := by show _ = _; funext s; simp
 obtain ⟨A, c, rfl⟩ := own_form hown
 have hw : IsWord w A n c ws := Cells.of_own hown (by decide)
 have hidx := idxSnd_c A n c ws 94 #[.pointer (some ⟨bp, 0, none⟩)] (fun s => !fsat s.1 s.2 cp cm) w hw hE (fun W hB s hs => pGrades1_c s cp cm bp W ((hB.block bp (lt_of_block hbox)).trans hbox))
 have HIDX := hI hidx; clear hidx
 have HOWN := hI hown; clear hown
 have HBOX := hI hbox
 have hlb := lt_of_block hbox
 clear hbox
 unfold Enters at hE
 have hwl := hw.len
 go_enter Tryz.func96, Tryz.ntmps96
 go_wp2_with fail
 refine HIDX.out.mono ?_
 rintro e w1 ⟨rfl, hb1⟩
 rcases idxM_cases (fun s : Snd => !fsat s.1 s.2 cp cm) ws with ⟨h1, h2⟩ | ⟨k, x, h1, h2, h3, h4⟩
 ·rw [h2]
  have HF : Hid (ws.filter (fun s => fsat s.1 s.2 cp cm) = ws) := by show _ = _; rw [HFLT.out]; exact filter_none h1
  clear h1 h2
  go_wp2
  go_ret
  exact ⟨_, n, rfl, by rw [HF.out]; exact own_heap HOWN.out fun j e => hb1.block j (HOWN.out.lt j e).2, rfl, keep_of_below hb1⟩
 ·rw [h4]
  have hkn : k < n := by rw [← hwl]; exact (List.getElem?_eq_some_iff.1 h1).1
  obtain ⟨g, c', hv, hBg, hgl⟩ := own_block HOWN.out (by omega)
  injection hv with hA _ hc
  subst hA hc
  have hgb : g ≠ bp := fun e => hne (by rw [e]; rfl)
  have hnc : n ≤ c := hw.2.1
  have hmc : c ≤ 9223372036854775807 := by have := hw.2.2.1; unfold maxLen at this; omega
  have hkw : IntKind.i64.wrap ((k : Int) + 1) = ((k + 1 : Nat) : Int) := by rw [IntWalk.i64_in _ (by omega)]; omega
  have hk1 : ((k : Int) == -1) = false := by simp
  have HT0 : Hid (ws.take k = (ws.take (k + 1)).filter fun s => fsat s.1 s.2 cp cm) := by
   show _ = _
   have h3' : fsat x.1 x.2 cp cm = false := by simpa using h3
   rw [take_snoc' ws k x h1, List.filter_append, HFLT.out, filter_none h2]
   simp [h3']
  clear h1 h2 h3 h4 hw
  go_wp2_with fail
  have HS : Hid (Keep (fun q => q = g) w w1) := keep_of_below hb1
  have HO1 : Hid (w1.ownsRow B 24 2 (.slice (some ⟨g, 0, none⟩) n c) n (wcells ws)) := own_heap HOWN.out fun j e => hb1.block j (HOWN.out.lt j e).2
  clear hb1 hkw hk1
  go_loopw [5, 6] (fun vi vj wr => ∃ (i j : Nat) (xs : List Snd), vi = .int .i64 i ∧ vj = .int .i64 j ∧ i < j ∧ j ≤ n ∧ xs.length = n ∧ Hid (wr.ownsRow B 24 2 (.slice (some ⟨g, 0, none⟩) n c) n (wcells xs)) ∧ Hid (xs.take i = (ws.take j).filter fun s => fsat s.1 s.2 cp cm) ∧ Hid (xs.drop j = ws.drop j) ∧ Hid (Keep (fun q => q = g) w wr)) (fun _ vj _ => n - (intOf vj).toNat)
  case atStart => exact ⟨k, k + 1, ws, rfl, by rfl, by omega, by omega, hwl, HO1.out, HT0.out, rfl, HS.out⟩
  case round =>
   obtain ⟨i, j, xs, rfl, rfl, hij, hjn, hxl, ho, hta, hdr, hK⟩ := hrel
   have hKs := hK.out.size
   by_cases hlt : j < n
   ·have hj1 : (j : Int) < (n : Int) := by omega
    have hwx : IsWord wr (some ⟨g, 0, none⟩) n c xs := Cells.of_own ho.out (by decide)
    obtain ⟨b, off, p, m, hA, _, hxj, hc0, hc1⟩ := hwx.at_ hlt
    obtain ⟨rfl, rfl⟩ : g = b ∧ 0 = off := by simpa using hA
    rw [Nat.zero_add] at hc0 hc1
    have hwj : ws[j]? = some (p, m) := by
     have h := congrArg (fun l => l[0]?) hdr.out
     simp only [List.getElem?_drop, Nat.add_zero] at h
     rw [← h]; exact hxj
    have HWJ := hI (take_snoc' ws j _ hwj)
    have HXJ := hI hxj
    clear hA hwx hxj hwj
    have hbb : wr.heap[bp]? = some (.cells #[.int .u32 cp, .int .u32 cm] 24 (0, 0)) := (hK.out.block bp hlb (fun e => hgb e.symm)).trans HBOX.out
    have hb1 : Below wr.heap.size wr (wr.alloc (.cells #[.int .u32 p, .int .u32 m] 24)) := bel
    have HBB := hI ((hb1.block bp (lt_of_block hbb)).trans hbb)
    have HO2 := hI (own_heap ho.out fun q e => hb1.block q (ho.out.lt q e).2)
    have HK2 := hI (hK.out.below hb1 rr)
    have hbx : (wr.alloc (.cells #[.int .u32 p, .int .u32 m] 24)).heap[wr.heap.size]? = some (.cells #[.int .u32 p, .int .u32 m] 24 (0, 0)) := hpt
    clear hbb
    go_wp2_with fail
    clear hc0 hc1 hb1
    generalize (wr.alloc (.cells #[.int .u32 p, .int .u32 m] 24)) = V1 at *
    obtain ⟨bx, hbxe⟩ : ∃ bx, bx = wr.heap.size := ⟨_, rfl⟩
    rw [← hbxe] at hbx ⊢
    have HBX := hI hbx
    clear hbx hbxe
    refine (pGrades1_c (p, m) cp cm bp V1 HBB.out).mono ?_
    obtain ⟨d, hd⟩ : ∃ d, d = fsat p m cp cm := ⟨_, rfl⟩
    rw [show fsat (p, m).1 (p, m).2 cp cm = d from hd.symm]
    have HD := hI hd; clear hd
    rintro e w6 ⟨rfl, hb6⟩
    have HO6 := hI (own_heap HO2.out fun q e => hb6.block q (HO2.out.lt q e).2)
    have HK6 := hI (HK2.out.below hb6 rr)
    have hx6 := (hb6.block bx (lt_of_block HBX.out)).trans HBX.out
    have e0 : w6.cell? ⟨bx, 0, none⟩ = some (.int .u32 p) := cell_at_heap hx6 rfl
    have e1 : w6.cell? ⟨bx, 1, none⟩ = some (.int .u32 m) := cell_at_heap hx6 rfl
    clear hb6 hx6
    cases d
    ·have HN : Hid (xs.take i = (ws.take (j + 1)).filter fun s => fsat s.1 s.2 cp cm) := by
      show _ = _
      rw [hta.out, HWJ.out, List.filter_append]
      simp [← HD.out]
     have HN2 : Hid (xs.drop (j + 1) = ws.drop (j + 1)) := by show _ = _; rw [← List.drop_drop, ← List.drop_drop, hdr.out]
     go_wp2
     go_roundw
     case rel => exact ⟨i, j + 1, xs, rfl, by go_num, by omega, by omega, hxl, HO6.out, HN.out, HN2.out, HK6.out⟩
     case measure => simp [intOf]; omega
    ·have hin : i < n := by omega
     have HN : Hid ((xs.set i (p, m)).take (i + 1) = (ws.take (j + 1)).filter fun s => fsat s.1 s.2 cp cm) := by
      show _ = _
      rw [take_snoc' _ i (p, m) (List.getElem?_set_self (by omega)), List.take_set_of_le rr, hta.out, HWJ.out, List.filter_append]
      simp [← HD.out]
     have HN2 : Hid ((xs.set i (p, m)).drop (j + 1) = ws.drop (j + 1)) := by show _ = _; rw [List.drop_set_of_lt (by omega), ← List.drop_drop, ← List.drop_drop, hdr.out]
     have HO6' : Hid (w6.ownsRow B 24 2 (.slice (some ⟨g, 0, none⟩) n c) n (xs.flatMap sndC2)) := by show World.ownsRow _ _ _ _ _ _ _; rw [wcells_fm]; exact HO6.out
     have HO7 := hI (own_set sndC2_len HO6'.out (by decide) hin (p, m))
     rw [wcells_fm] at HO7
     have HK7 : Hid (Keep (fun q => q = g) w (w6.setCells g (i * 2) (sndC2 (p, m)))) := keep_setCells (S := fun q => q = g) g rfl _ _ _ HK6.out
     have hi1 : (i : Int) < (n : Int) := by omega
     have hi0 : (0 : Int) ≤ (i : Int) := by omega
     go_wp2_with (refine store_snd_at rfl (.tmp 33) (.tmp 32) rfl HO6'.out hin p m rfl rfl ?_)
     generalize (w6.setCells g (i * 2) (sndC2 (p, m))) = V7 at *
     go_roundw
     case rel => exact ⟨i + 1, j + 1, xs.set i (p, m), by go_num, by go_num, by omega, by omega, by rw [List.length_set]; exact hxl, HO7.out, HN.out, HN2.out, HK7.out⟩
     case measure => simp [intOf]; omega
   ·have hj1 : ¬ ((j : Int) < (n : Int)) := by omega
    have hin : i < n := by omega
    have HR : Hid (xs.take i = ws.filter fun s => fsat s.1 s.2 cp cm) := by show _ = _; rw [hta.out, List.take_of_length_le (by omega)]
    obtain ⟨vs, hvl, hclr⟩ := run_clear_snds wr g (i * 2) (n - i) (c - i) (by omega) (own_there_from ho.out (by omega))
    have hci : ¬ c = i := by omega
    have hi0 : (0 : Int) ≤ (i : Int) := by omega
    have hi1 : (i : Int) ≤ (n : Int) := by omega
    have hic : (i : Int) ≤ (c : Int) := by omega
    have hic' : i ≤ c := by omega
    have hown9 := own_clear ho.out (show i ≤ n by omega) hvl
    rw [wcells_take', HR.out] at hown9
    have HOWN9 := hI hown9
    have HK9 : Hid (Keep (fun q => (Value.slice (some ⟨g, 0, none⟩) n c).ownBlock = some q) w (wr.setCells g (i * 2) vs)) := keep_setCells (S := fun q => (Value.slice (some ⟨g, 0, none⟩) n c).ownBlock = some q) g rfl _ _ _ (hK.out.mono fun q (e : q = g) => by rw [e]; rfl)
    clear hown9
    go_wp2
    go_ret
    exact ⟨_, i, rfl, HOWN9.out, rfl, HK9.out⟩
theorem own_addr {w : World} {B : Nat} {e : TypeId} {sz n c : Nat} {A : Option Addr} {L : List Value} (h : w.ownsRow B e sz (.slice A n c) n L) : ∀ ad, A = some ad → B ≤ ad.block := by
 intro ad had
 rcases h.2 with ⟨hv0, _⟩ | ⟨g', cap, cur, hv', hb, _⟩
 ·injection hv0 with hA; rw [had] at hA; cases hA
 ·injection hv' with hA; rw [had] at hA; injection hA with hA; subst hA; exact hb
theorem form_one {f : FormR} : ∀ u ∈ f.cells, u.oneCell' = true := by
 intro u hu
 simp only [FormR.cells, List.mem_cons, List.not_mem_nil, or_false] at hu
 rcases hu with rfl | rfl <;> rfl
def gradeF (cond : Snd) (x : Frm) : Frm := (x.1, x.2.filter fun s => fsat s.1 s.2 cond.1 cond.2)
def pGradesM (T : List (List Frm)) (r : Int) (cond : Snd) : Int × List Int :=
 if parE T ≠ 0 then (parE T, []) else if fvalid cond.1 cond.2 = false then (14, []) else if lineE T r ≠ 0 then (lineE T r, []) else (0, labelsM ((lineR T r).map (gradeF cond)))
theorem pGrades_c (A : Option Addr) (n c : Nat) (T : List (List Frm)) (r : Int) (cp cm : Int) (w : World) (hx : IsPar w A n c T) (hr : -9223372036854775808 ≤ r ∧ r ≤ 9223372036854775807) :
  Calls Tryz.prog 34 #[.slice A n c, .int .i64 r, sndV cp cm] w (RetNsE w (pGradesM T r (cp, cm))) := by
 have hm := hx.max
 have HX := hI hx; clear hx
 have hE := enters_of Tryz.func92 (by kernel_rfl) rfl
 unfold Enters at hE
 have hb0 : Below w.heap.size w (w.alloc (.cells #[.int .u32 cp, .int .u32 cm] 24)) := bel
 have hk0 : (w.alloc (.cells #[.int .u32 cp, .int .u32 cm] 24)).heap[w.heap.size]? = some (.cells #[.int .u32 cp, .int .u32 cm] 24 (0, 0)) := hpt
 go_enter Tryz.func34, Tryz.ntmps34
 go_wp2_with fail
 generalize (w.alloc (.cells #[.int .u32 cp, .int .u32 cm] 24)) = V0 at *
 obtain ⟨bp, hbp⟩ : ∃ bp, bp = w.heap.size := ⟨_, rfl⟩
 rw [← hbp] at hk0 ⊢
 have hbpw : w.heap.size ≤ bp := Nat.le_of_eq hbp.symm
 clear hbp
 refine (pCheck_c A n c T V0 (HX.out.below hb0 rr)).mono ?_
 obtain ⟨er, her⟩ : ∃ er, er = parE T := ⟨_, rfl⟩
 rw [← her]
 rintro e w1 ⟨rfl, hb1⟩
 have hB1 := hb0.trans (hb1.mono hb0.size)
 have hk1 := (hb1.block bp (lt_of_block hk0)).trans hk0
 clear hb0 hb1 hk0
 by_cases h0 : er = 0
 case neg =>
  have h1 : (er != 0) = true := by simpa using h0
  have HM : Hid (pGradesM T r (cp, cm) = (er, [])) := by show _ = _; unfold pGradesM; rw [← her, if_pos h0]
  clear h0 her
  go_wp2
  go_ret2
  exact ⟨none, 0, 0, by rw [HM.out]; rfl, by rw [HM.out]; exact Cells.nil _ _, hB1⟩
 have h1 : (er != 0) = false := by simpa using h0
 have HPE : Hid (parE T = 0) := by show _ = _; rw [← her]; exact h0
 have c0 : w1.cell? ⟨bp, 0, none⟩ = some (.int .u32 cp) := cell_at_heap hk1 rfl
 have c1' : w1.cell? ⟨bp, 1, none⟩ = some (.int .u32 cm) := cell_at_heap hk1 rfl
 clear h0 her
 go_wp2_with fail
 refine (fValid_c cp cm w1).mono ?_
 obtain ⟨d, hd⟩ : ∃ d, d = fvalid cp cm := ⟨_, rfl⟩
 rw [← hd]
 rintro e w2 ⟨rfl, hb2⟩
 have hB2 := hB1.trans (hb2.mono hB1.size)
 have hk2 := (hb2.block bp (lt_of_block hk1)).trans hk1
 clear hb2 hk1 c0 c1' hB1
 cases d
 case false =>
  have HM : Hid (pGradesM T r (cp, cm) = (14, [])) := by show _ = _; unfold pGradesM; rw [if_neg (by simp [HPE.out]), if_pos hd.symm]
  clear hd
  go_wp2
  go_ret2
  exact ⟨none, 0, 0, by rw [HM.out]; rfl, by rw [HM.out]; exact Cells.nil _ _, hB2⟩
 have HM0 : Hid (pGradesM T r (cp, cm) = if lineE T r ≠ 0 then (lineE T r, []) else (0, labelsM ((lineR T r).map (gradeF (cp, cm))))) := by show _ = _; unfold pGradesM; rw [if_neg (by simp [HPE.out]), if_neg (by simp [← hd])]
 clear hd
 go_wp2_with fail
 refine (pLine_c A n c T r w2 (HX.out.below hB2 rr) hr).mono ?_
 rintro e w3 ⟨⟨h0, rfl⟩ | ⟨h0, A1, n1, c1, rfl, hf⟩, hb3⟩
 ·have hB3 := hB2.trans (hb3.mono hB2.size)
  obtain ⟨er, her⟩ : ∃ er, er = lineE T r := ⟨_, rfl⟩
  rw [← her] at h0 HM0 ⊢
  have h1 : (er != 0) = true := by simpa using h0
  have HM : Hid (pGradesM T r (cp, cm) = (er, [])) := by show _ = _; rw [HM0.out, if_pos h0]
  clear h0 her HM0
  go_wp2
  go_ret2
  exact ⟨none, 0, 0, by rw [HM.out]; rfl, by rw [HM.out]; exact Cells.nil _ _, hB3⟩
 have HM : Hid (pGradesM T r (cp, cm) = (0, labelsM ((lineR T r).map (gradeF (cp, cm))))) := by show _ = _; rw [HM0.out, if_neg (by simpa using h0)]
 clear HM0
 obtain ⟨_, _, _, h6⟩ := line_good h0
 have hmem := List.mem_of_getElem? h6
 have h16 := (shape_len (par_shape HPE.out)).2.1 _ hmem
 rw [hf.len] at h16
 have HOK : Hid (∀ x ∈ lineR T r, x.2.length ≤ 4096) := fun x hx => by have := wcheck_len (words_all HPE.out hmem hx); omega
 have hB3 := hB2.trans (hb3.mono hB2.size)
 have hk3 := hI ((hb3.block bp (lt_of_block hk2)).trans hk2)
 have hbl := lt_of_block hk3.out
 have HF := hI hf
 clear hf h0 h6 hmem hb3 hk2 hB2
 obtain ⟨l, hl⟩ : ∃ l, l = lineR T r := ⟨_, rfl⟩
 rw [← hl] at HM HOK HF
 clear hl
 have HB3 := hI hB3
 go_wp2_with fail
 go_loopw [11, 34] (fun v vi wr => ∃ (k : Nat) (fs : List FormR), vi = .int .i64 k ∧ k ≤ n1 ∧ fs.length = k ∧ Hid (FrmW wr w3.heap.size v fs) ∧ Hid (fs.map FormR.data = (l.take k).map (gradeF (cp, cm))) ∧ Below w3.heap.size w3 wr) (fun _ vi _ => n1 - (intOf vi).toNat)
 case atStart => exact ⟨0, [], rfl, Nat.zero_le _, rfl, FrmW.nil _, by simp [Hid], Below.refl _ _⟩
 case round =>
  obtain ⟨k, fs, rfl, hk, hfl, hfw, hdat, hB⟩ := hrel
  have hBs := hB.size
  have hBB := HB3.out.trans (hB.mono HB3.out.size)
  have HFL := hI hfl
  have hfl' : fs.length ≤ n1 := by omega
  clear hfl
  by_cases hlt : k < n1
  ·have hk1 : (k : Int) < (n1 : Int) := by omega
   obtain ⟨b, off, h, A2, n2, c2, ws, rfl, hb, hc0, hc1, hlk, hws⟩ := (HF.out.below hB rr).at_ hlt
   have hb1 : Below wr.heap.size wr (wr.alloc (.cells #[.bool h, .slice A2 n2 c2] 57)) := bel
   have hbx : (wr.alloc (.cells #[.bool h, .slice A2 n2 c2] 57)).heap[wr.heap.size]? = some (.cells #[.bool h, .slice A2 n2 c2] 57 (0, 0)) := hpt
   have HW := hI (hws.below hb1 rr)
   have h96 : ws.length ≤ 4096 := HOK.out _ (List.mem_of_getElem? hlk)
   rw [hws.len] at h96
   have HLK := hI hlk
   have hbxl : bp < wr.heap.size := by omega
   have hbv := hI ((hb1.block bp hbxl).trans ((hB.block bp hbl).trans hk3.out))
   have HFW := hI (hfw.out.below hb1)
   have hB1 := hB.trans (hb1.mono hBs)
   have hnb : u11.ownBlock ≠ some wr.heap.size := fun e => by have := (hfw.out.own.lt _ e).2; omega
   clear hws hlk hfw
   go_wp2_with fail
   clear hc0 hc1 hb1
   generalize (wr.alloc (.cells #[.bool h, .slice A2 n2 c2] 57)) = V1 at *
   obtain ⟨bx, hbxe⟩ : ∃ bx, bx = wr.heap.size := ⟨_, rfl⟩
   rw [← hbxe] at hbx hnb ⊢
   have HNB := hI hnb; clear hnb
   have hbxV := lt_of_block hbx
   have e0 : V1.cell? ⟨bx, 0, none⟩ = some (.bool h) := cell_at_heap hbx rfl
   have e1 : V1.cell? ⟨bx, 1, none⟩ = some (.slice A2 n2 c2) := cell_at_heap hbx rfl
   have HBX := hI hbx
   clear hbx hbxe
   refine plain_region (fun W' => W'.cell? ⟨bx, 0, none⟩ = some (.bool h) ∧ W'.cell? ⟨bx, 1, none⟩ = some (.slice A2 n2 c2)) (by kernel_rfl) ⟨e0, e1⟩ (fun hHeld => ?_)
   (refine' anyT_tk 0 rfl ?_; (try simp only [Act.put, nY, nX])); (refine' anyT_tk 1 rfl ?_; (try simp only [Act.put, nY, nX])); (refine' anyT_tk 2 rfl ?_; (try simp only [Act.put, nY, nX])); (refine' anyT_tk 3 rfl ?_; (try simp only [Act.put, nY, nX])); (refine' anyT_tk 4 rfl ?_; (try simp only [Act.put, nY, nX])); (refine' anyT_tk 6 rfl ?_; (try simp only [Act.put, nY, nX]))
   (refine anyT_sp 5 rfl (fun K' hK' => ?_); simp only [nY]; go_simp)
   have hVd : Below V1.heap.size V1 V1.drew := (Below.refl V1.heap.size V1).drew
   refine (cloneOwn_c A2 n2 c2 ws V1.drew (HW.out.below hVd rr) h96).mono ?_
   rintro e w4 ⟨v4, rfl, hown4, hb4⟩
   have hb4' : Below V1.heap.size V1 w4 := hVd.trans hb4
   have hx4 := (hb4'.block bx (lt_of_block HBX.out)).trans HBX.out
   refine hK' _ _ ⟨.inr ⟨cell_at_heap hx4 rfl, cell_at_heap hx4 rfl⟩, fun _ => ?_⟩
   clear hK' K'
   (try simp only [Act.put, nY, nX])
   (refine anyT_sp 7 rfl (fun K' hK' => ?_); simp only [nY]; go_simp)
   have hbp4 := (hb4'.block bp (lt_of_block hbv.out)).trans hbv.out
   have hbpV := lt_of_block hbv.out
   refine (delSnd_c v4 n2 V1.drew.heap.size ws cp cm bp w4 hown4 h96 hbp4 (fun e => by have := (hown4.lt _ e).1; simp at this; omega)).mono ?_
   rintro e w5 ⟨v5, m5, rfl, hown5, hob, hk5⟩
   have hb5 : Below V1.heap.size w4 w5 := hk5.to_below (B := V1.heap.size) (fun q e => (hown4.lt q e).1) hb4'.size
   have hb5' : Below V1.heap.size V1 w5 := hb4'.trans hb5
   obtain ⟨A5, c5, rfl⟩ := own_form hown5
   have hw5 : IsWord w5 A5 m5 c5 (ws.filter fun s => fsat s.1 s.2 cp cm) := Cells.of_own hown5 (by decide)
   have hf5 : ∀ ad, A5 = some ad → V1.heap.size ≤ ad.block := fun ad h => own_addr hown5 ad h
   have hx5 := (hb5'.block bx (lt_of_block HBX.out)).trans HBX.out
   refine hK' _ _ ⟨.inr ⟨cell_at_heap hx5 rfl, cell_at_heap hx5 rfl⟩, fun _ => ?_⟩
   clear hK' K' hob hk5 hown5 hown4 hbp4 hb4 hb5
   (try simp only [Act.put, nY, nX])
   have hS5 : w5.cell? ⟨bx, 0, none⟩ = some (.bool h) ∧ w5.cell? ⟨bx, 1, none⟩ = some (.slice A2 n2 c2) := ⟨cell_at_heap hx5 rfl, cell_at_heap hx5 rfl⟩
   (refine' anyT_tk 8 rfl ?_; (try simp only [Act.put, nY, nX]))
   (refine anyT_sp 9 rfl (fun K' hK' => ?_); simp only [nY]; go_simp)
   obtain ⟨f, hf⟩ : ∃ f : FormR, f = ⟨h, (A5, m5, c5, ws.filter fun s => fsat s.1 s.2 cp cm)⟩ := ⟨_, rfl⟩
   have hb6 : Below V1.heap.size V1 (w5.alloc (.cells #[.bool h, .slice A5 m5 c5] 57)) := hb5'.alloc hb5'.size _
   have hz6 : (w5.alloc (.cells #[.bool h, .slice A5 m5 c5] 57)).heap[w5.heap.size]? = some (.cells #[.bool f.h, .slice f.p.1 f.p.2.1 f.p.2.2.1] 57 (0, 0)) := by rw [hf]; exact heap_new_at rfl
   have hw6 : IsWord (w5.alloc (.cells #[.bool h, .slice A5 m5 c5] 57)) f.p.1 f.p.2.1 f.p.2.2.1 f.p.2.2.2 := by rw [hf]; exact hw5.below ((Below.refl w5.heap.size w5).alloc rr _) rr
   have hf6 : ∀ ad, f.p.1 = some ad → V1.heap.size ≤ ad.block := by rw [hf]; exact hf5
   have hx6 := (hb6.block bx (lt_of_block HBX.out)).trans HBX.out
   refine hK' _ _ ⟨.inr ⟨cell_at_heap hx6 rfl, cell_at_heap hx6 rfl⟩, fun _ => ?_⟩
   clear hK' K' hx5 hw5 hf5 hb5' hHeld e0 e1 hS5
   (try simp only [Act.put, nY, nX])
   have HFW6 := hI (HFW.out.below hb6)
   have HAW6 := hI (HFW.out.fresh (q := f.p) hw6 hf6)
   have hB6 := hB1.trans (hb6.mono hB1.size)
   have HDAT : Hid ((fs ++ [f]).map FormR.data = (l.take (k + 1)).map (gradeF (cp, cm))) := by
    show _ = _
    rw [take_snoc' l k _ HLK.out, List.map_append, List.map_append, hdat.out, hf]; rfl
   clear hf
   generalize (w5.alloc (.cells #[.bool h, .slice A5 m5 c5] 57)) = V6 at *
   refine anyT_sp 10 rfl (fun K' hK' => ?_)
   rw [if_pos (by rfl)]
   refine wp_append_own_at (.tmp 39) (.tmp 48) 62 rfl w3.heap.size 57 (.agg #[.bool false, .slice none 0 0]) 2 32 Tryz.underlying62 form_info rfl (by decide) u11 fs.length (fs.flatMap FormR.cells) (by rfl) HFW6.out.own ⟨w5.heap.size, 0, none⟩ 1 1 f.cells (by rfl) rfl (form_cells hz6) form_one (by unfold maxLen; omega) (by omega) hB6.size ?_
   intro v7 X7 hown7 hg7 _ hat7
   have HFW7 := hI (HFW6.out.push HAW6.out hown7 hg7 hat7)
   have hB7 : Below w3.heap.size w3 X7 := own_below hB6 HFW6.out.own hg7 rr hB6.size
   have hx7 := (hg7.block bx (lt_of_block hx6) (Ne.symm HNB.out)).trans hx6
   refine hK' _ _ ⟨.inr ⟨cell_at_heap hx7 rfl, cell_at_heap hx7 rfl⟩, fun _ => ?_⟩
   clear hK' K' hown7 hg7 hat7 hx6 hx7 hz6 hw6 hf6 hb6
   (try simp only [Act.put, nY, nX])
   (refine anyT_sp 11 rfl (fun K' hK' => ?_); simp only [nY]; go_simp)
   refine hK' _ _ ⟨.inl (by kernel_rfl), fun _ => anyT_done (by kernel_rfl) ?_ _⟩
   clear hK' K'
   go_wp2
   go_roundw
   case rel => exact ⟨k + 1, fs ++ [f], by go_num, by omega, by rw [List.length_append, HFL.out]; rfl, HFW7.out, HDAT.out, hB7⟩
   case measure => simp [intOf]; omega
  ·have hk1 : ¬ ((k : Int) < (n1 : Int)) := by omega
   have HD : Hid (fs.map FormR.data = l.map (gradeF (cp, cm))) := by show _ = _; rw [hdat.out, List.take_of_length_le (by rw [HF.out.len]; omega)]
   obtain ⟨A8, c8, hv8⟩ := own_form hfw.out.own
   subst hv8
   have hip := hfw.out.forms rfl
   rw [HD.out] at hip
   have HIP := hI hip; clear hip
   go_wp2_with fail
   refine (labelsF_c A8 fs.length c8 _ wr HIP.out (by omega)).mono ?_
   rintro e w5 ⟨A5, n5, c5, rfl, hi, hb5⟩
   have HI := hI hi; clear hi
   go_wp2
   go_ret2
   exact ⟨A5, n5, c5, by rw [HM.out]; rfl, by rw [HM.out]; exact HI.out, hBB.trans (hb5.mono hBB.size)⟩
end Go.Proofs.YtlgliddhideflaaGreatDoor

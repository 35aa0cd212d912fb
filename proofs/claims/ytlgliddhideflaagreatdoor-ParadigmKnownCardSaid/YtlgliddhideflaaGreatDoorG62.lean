/-
  Rows of forms, in rows of one's own.
  slices.EqualFunc over forms; paradigm: labels over rows, Same, Classes.
-/
import Derived.Test.YtlgliddhideflaaGreatDoorG61
import Derived.Test.YtlgliddhideflaaGreatDoorG38
set_option linter.all false
set_option maxRecDepth 100000
set_option maxHeartbeats 4000000
namespace Go.Proofs.YtlgliddhideflaaGreatDoor
open Go.RowKit Go.Shelf
theorem cells_keep {S : Nat → Prop} {w w' : World} {A : Option Addr} {n c sz : Nat} {vs : List Value} (h : Cells w A n c sz vs) (hk : Keep S w w') (hS : 0 < n → ∀ ad, A = some ad → ¬ S ad.block) : Cells w' A n c sz vs := by
 obtain ⟨h1, h2, h3, h4, h5⟩ := h
 refine ⟨h1, h2, h3, h4, fun hn => ?_⟩
 obtain ⟨b, off, rfl, hlt, hc⟩ := h5 hn
 exact ⟨b, off, rfl, Nat.lt_of_lt_of_le hlt hk.size, fun j v hv => (World.cell?_of_block (hk.block b hlt (hS hn _ rfl))).trans (hc j v hv)⟩
theorem cells_lt {w : World} {A : Option Addr} {n c sz : Nat} {vs : List Value} (h : Cells w A n c sz vs) {ad : Addr} (had : A = some ad) (hn : 0 < n) : ad.block < w.heap.size := by
 obtain ⟨b, off, hb, hlt, _⟩ := h.2.2.2.2 hn
 rw [had] at hb
 injection hb with hb
 subst hb
 exact hlt
def FAway (v : Value) (w : World) (r : RowR) : Prop :=
 ∃ fs : List FormR, fs.map FormR.data = r.l ∧ Recs FormR.cells 2 w r.A r.n r.c fs ∧ (∀ ad, r.A = some ad → 0 < r.n → ¬ v.ownBlock = some ad.block) ∧ ∀ f ∈ fs, Away v w f.p
theorem FAway.forms {v : Value} {w : World} {r : RowR} (h : FAway v w r) : IsForms w r.A r.n r.c r.l := by
 obtain ⟨fs, h1, h2, _, h4⟩ := h
 exact ⟨fs, h1, h2, fun f hf => (h4 f hf).1⟩
theorem FAway.below {v : Value} {w w' : World} {r : RowR} (h : FAway v w r) (hb : Below w.heap.size w w') : FAway v w' r := by
 obtain ⟨fs, h1, h2, h3, h4⟩ := h
 exact ⟨fs, h1, h2.below hb rr, h3, fun f hf => (h4 f hf).below hb⟩
theorem FAway.grown {v v' : Value} {w X : World} {r : RowR} (h : FAway v w r) (hg : w.grownBy X v.ownBlock) (hat : v'.ownBlock = v.ownBlock ∨ v'.ownBlock = some w.heap.size) : FAway v' X r := by
 obtain ⟨fs, h1, h2, h3, h4⟩ := h
 refine ⟨fs, h1, ⟨cells_keep (S := fun k => v.ownBlock = some k) h2.1 ((Keep.refl (fun k => v.ownBlock = some k) w).grown hg (fun k e => .inl e)) fun hn ad had e => h3 ad had hn e, h2.2⟩, fun ad had hn e => ?_, fun f hf => (h4 f hf).grown hg hat⟩
 rcases hat with e' | e'
 ·exact h3 ad had hn (e' ▸ e)
 ·rw [e'] at e; injection e with e; have := cells_lt h2.1 had hn; omega
structure ParW (w : World) (B : Nat) (v : Value) (rs : List RowR) : Prop where
 own : w.ownsRow B 62 1 v rs.length (rs.map RowR.val)
 pp : ∀ r ∈ rs, FAway v w r
 sz : B ≤ w.heap.size
theorem ParW.nil (w : World) : ParW w w.heap.size (.slice none 0 0) [] := ⟨World.ownsRow_nil _ _ _ _, fun p hp => by simp at hp, rr⟩
theorem ParW.below {w w' : World} {B : Nat} {v : Value} {rs : List RowR} (h : ParW w B v rs) (hb : Below w.heap.size w w') : ParW w' B v rs :=
 ⟨own_heap h.own fun k e => hb.block k (h.own.lt k e).2, fun p hp => (h.pp p hp).below hb, Nat.le_trans h.sz hb.size⟩
theorem ParW.par {w : World} {B : Nat} {A : Option Addr} {n c : Nat} {rs : List RowR} (h : ParW w B (.slice A n c) rs) (hn : n = rs.length) : IsPar w A n c (rs.map RowR.l) := by
 subst hn
 exact ⟨rs, rfl, Cells.of_own h.own (by decide), fun r hr => (h.pp r hr).forms⟩
theorem ParW.push {w X : World} {B : Nat} {v v' : Value} {rs : List RowR} (h : ParW w B v rs) {q : RowR} (hq : FAway v w q) (hown : X.ownsRow B 62 1 v' (rs.length + 1) (rs.map RowR.val ++ [q.val])) (hg : w.grownBy X v.ownBlock)
  (hat : v'.ownBlock = v.ownBlock ∨ v'.ownBlock = some w.heap.size) : ParW X B v' (rs ++ [q]) := by
 refine ⟨?_, fun p hp => ?_, Nat.le_trans h.sz hg.size⟩
 ·rw [List.length_append, List.length_singleton, List.map_append]; exact hown
 ·rcases List.mem_append.1 hp with hp | hp
  ·exact (h.pp p hp).grown hg hat
  ·obtain rfl : p = q := by simpa using hp
   exact hq.grown hg hat
theorem ParW.fresh {w w' : World} {B : Nat} {v : Value} {rs : List RowR} (h : ParW w B v rs) {A : Option Addr} {n c : Nat} {l : List Frm} (ho : OwnForms w.heap.size w' A n c l) : FAway v w' ⟨A, n, c, l⟩ := by
 obtain ⟨fs, h1, h2, h3⟩ := ho
 refine ⟨fs, h1, Recs.of_own h2 FormR.len (by decide), fun ad had hn e => ?_, fun f hf => ⟨(h3 f hf).1, fun ad had _ e => ?_⟩⟩
 ·obtain ⟨g, c', hv, hb, hlt⟩ := own_block h2 hn
  have had' : A = some ad := had
  rw [had'] at hv
  injection hv with hv
  injection hv with hv
  subst hv
  have h4 := (h.own.lt _ e).2
  have h5 : w.heap.size ≤ g := hb
  have h6 : g < w.heap.size := h4
  omega
 ·have := (h.own.lt _ e).2; have := (h3 f hf).2 ad had; omega
structure FrmW (w : World) (B : Nat) (v : Value) (fs : List FormR) : Prop where
 own : w.ownsRow B 57 2 v fs.length (fs.flatMap FormR.cells)
 pp : ∀ f ∈ fs, Away v w f.p
 sz : B ≤ w.heap.size
theorem FrmW.nil (w : World) : FrmW w w.heap.size (.slice none 0 0) [] := ⟨World.ownsRow_nil _ _ _ _, fun p hp => by simp at hp, rr⟩
theorem FrmW.nilB {B : Nat} {w : World} (h : B ≤ w.heap.size) : FrmW w B (.slice none 0 0) [] := ⟨World.ownsRow_nil _ _ _ _, fun p hp => by simp at hp, h⟩
theorem FrmW.below {w w' : World} {B : Nat} {v : Value} {fs : List FormR} (h : FrmW w B v fs) (hb : Below w.heap.size w w') : FrmW w' B v fs :=
 ⟨own_heap h.own fun k e => hb.block k (h.own.lt k e).2, fun p hp => (h.pp p hp).below hb, Nat.le_trans h.sz hb.size⟩
theorem FrmW.forms {w : World} {B : Nat} {A : Option Addr} {n c : Nat} {fs : List FormR} (h : FrmW w B (.slice A n c) fs) (hn : n = fs.length) : IsForms w A n c (fs.map FormR.data) := by
 subst hn
 exact ⟨fs, rfl, Recs.of_own h.own FormR.len (by decide), fun f hf => (h.pp f hf).1⟩
theorem FrmW.push {w X : World} {B : Nat} {v v' : Value} {fs : List FormR} (h : FrmW w B v fs) {q : FormR} (hq : Away v w q.p) (hown : X.ownsRow B 57 2 v' (fs.length + 1) (fs.flatMap FormR.cells ++ q.cells)) (hg : w.grownBy X v.ownBlock)
  (hat : v'.ownBlock = v.ownBlock ∨ v'.ownBlock = some w.heap.size) : FrmW X B v' (fs ++ [q]) := by
 refine ⟨?_, fun p hp => ?_, Nat.le_trans h.sz hg.size⟩
 ·rw [List.length_append, List.length_singleton, List.flatMap_append, List.flatMap_singleton]; exact hown
 ·rcases List.mem_append.1 hp with hp | hp
  ·exact (h.pp p hp).grown hg hat
  ·obtain rfl : p = q := by simpa using hp
   exact hq.grown hg hat
theorem FrmW.fresh {w w' : World} {B : Nat} {v : Value} {fs : List FormR} {q : Part} (h : FrmW w B v fs) (hq : IsWord w' q.1 q.2.1 q.2.2.1 q.2.2.2) (hf : ∀ ad, q.1 = some ad → w.heap.size ≤ ad.block) : Away v w' q :=
 ⟨hq, fun ad had _ e => by have := (h.own.lt _ e).2; have := hf ad had; omega⟩
theorem FrmW.older {w w' : World} {B : Nat} {v : Value} {fs : List FormR} {q : Part} (h : FrmW w B v fs) (hq : IsWord w' q.1 q.2.1 q.2.2.1 q.2.2.2) (hf : ∀ ad, q.1 = some ad → 0 < q.2.1 → ad.block < B) : Away v w' q :=
 ⟨hq, fun ad had hn e => by have := (h.own.lt _ e).1; have := hf ad had hn; omega⟩
theorem FrmW.away {w : World} {B : Nat} {v v' : Value} {fs : List FormR} {A : Option Addr} {n c : Nat} (h : FrmW w B (.slice A n c) fs) (hn : n = fs.length) (hb : ∀ k, v.ownBlock = some k → k < B) (hp : ∀ f ∈ fs, ∀ ad, f.p.1 = some ad → 0 < f.p.2.1 → ¬ v.ownBlock = some ad.block) : FAway v w ⟨A, n, c, fs.map FormR.data⟩ := by
 subst hn
 refine ⟨fs, rfl, Recs.of_own h.own FormR.len (by decide), fun ad had hn e => ?_, fun f hf => ⟨(h.pp f hf).1, fun ad had hn => hp f hf ad had hn⟩⟩
 obtain ⟨g, c', hv, hb', hlt⟩ := own_block h.own hn
 have had' : A = some ad := had
 rw [had'] at hv
 injection hv with hv
 injection hv with hv
 subst hv
 have := hb _ e
 have h5 : B ≤ g := hb'
 have h6 : g < B := this
 omega
theorem append_frm {ops : Array Oper} {rest : List Oper} {o : Oper} {a : Act} {w : World} {Q : Exit → Act → World → Prop} (hgd : o.guard = none) (s x : Operand)
  (ho : o.op = .call { callee := .builtin .append, args := #[s, x], argTypes := #[62, 62] })
  (base : Nat) (v : Value) (n : Nat) (xs : List Value) (hs : a.eval s = v) (hown : w.ownsRow base 57 2 v n xs)
  (ad : Addr) (c : Nat) (f : FormR) (hx : a.eval x = .slice (some ad) 1 c) (hr : ∀ j u, f.cells[j]? = some u → w.cell? (ad.add j) = some u) (hl : n + 1 ≤ 4096) (hbase : base ≤ w.heap.size)
  (h : ∀ v' w', w'.ownsRow base 57 2 v' (n + 1) (xs ++ f.cells) → w.grownBy w' v.ownBlock → (v'.ownBlock = v.ownBlock ∨ v'.ownBlock = some w.heap.size) →
   wpList Tryz.prog ops Q rest (a.put o.dst v') w') : wpList Tryz.prog ops Q (o :: rest) a w := by
 obtain ⟨i0, hi, hz0, hz1, hz2⟩ := info_parts form_info
 exact wpList_append_own_at w hgd s x 62 ho base 57 i0 _ 2 32 Tryz.underlying62 hi hz0 hz1 hz2 rfl (by decide) v n xs hs hown ad 1 c f.cells hx rfl hr
  (by intro u hu; simp only [FormR.cells, List.mem_cons, List.not_mem_nil, or_false] at hu; rcases hu with rfl | rfl <;> rfl) (by unfold maxLen; omega) (by omega) hbase fun v' w' h1 h2 _ h4 => h v' w' h1 h2 h4
theorem form_cells {w : World} {b : Nat} {f : FormR} {t : TypeId} (h : w.heap[b]? = some (.cells #[.bool f.h, .slice f.p.1 f.p.2.1 f.p.2.2.1] t (0, 0))) : ∀ (j : Nat) u, f.cells[j]? = some u → w.cell? ((⟨b, 0, none⟩ : Addr).add j) = some u := by
 intro j u hu
 rw [addr_add, Nat.zero_add]
 exact cell_at_heap h (by simpa [FormR.cells, Part.val] using hu)
theorem fms_info : (Tryz.prog.info? 62).map (fun i => (i.zero, i.size, i.bytes)) = some (some (.slice none 0 0), 1, 24) := by kernel_rfl
theorem append_fms {ops : Array Oper} {rest : List Oper} {o : Oper} {a : Act} {w : World} {Q : Exit → Act → World → Prop} (hgd : o.guard = none) (s x : Operand)
  (ho : o.op = .call { callee := .builtin .append, args := #[s, x], argTypes := #[59, 59] })
  (base : Nat) (v : Value) (n : Nat) (xs : List Value) (hs : a.eval s = v) (hown : w.ownsRow base 62 1 v n xs)
  (ad : Addr) (c : Nat) (y : Value) (hx : a.eval x = .slice (some ad) 1 c) (hr : ∀ j u, [y][j]? = some u → w.cell? (ad.add j) = some u) (hy : y.oneCell' = true) (hl : n + 1 ≤ 4096) (hbase : base ≤ w.heap.size)
  (h : ∀ v' w', w'.ownsRow base 62 1 v' (n + 1) (xs ++ [y]) → w.grownBy w' v.ownBlock → (v'.ownBlock = v.ownBlock ∨ v'.ownBlock = some w.heap.size) →
   wpList Tryz.prog ops Q rest (a.put o.dst v') w') : wpList Tryz.prog ops Q (o :: rest) a w := by
 obtain ⟨i0, hi, hz0, hz1, hz2⟩ := info_parts fms_info
 exact wpList_append_own_at w hgd s x 59 ho base 62 i0 _ 1 24 Tryz.underlying59 hi hz0 hz1 hz2 rfl (by decide) v n xs hs hown ad 1 c [y] hx rfl hr
  (by intro u hu; simp at hu; subst hu; exact hy) (by unfold maxLen; omega) (by omega) hbase fun v' w' h1 h2 _ h4 => h v' w' h1 h2 h4
theorem equalF_c (A A' : Option Addr) (n n' c c' : Nat) (l l' : List Frm) (w : World) (hx : IsForms w A n c l) (hy : IsForms w A' n' c' l') :
  Calls Tryz.prog 99 #[.slice A n c, .slice A' n' c', .func (.func 92) #[] #[]] w fun e w' => e = .returned (.bool (decide (l = l'))) ∧ Below w.heap.size w w' := by
 have hE := enters_of Tryz.func92 (by kernel_rfl) rfl
 unfold Enters at hE
 have hm := hx.max
 have hm' := hy.max
 have HX := hI hx; clear hx
 have HY := hI hy; clear hy
 by_cases hn : n = n'
 case neg =>
  have HF : Hid (decide (l = l') = false) := decide_eq_false fun e => hn (by rw [← HX.out.len, ← HY.out.len, e])
  have hne : ((n : Int) != (n' : Int)) = true := by simp; omega
  go_enter Tryz.func99, Tryz.ntmps99
  go_wp2
  go_ret
  exact ⟨by rw [HF.out]; rfl, bel⟩
 subst hn
 have hne : ((n : Int) != (n : Int)) = false := by simp
 go_enter Tryz.func99, Tryz.ntmps99
 go_wp2_with fail
 clear hne
 go_loopw [17] (fun vi wr => ∃ k : Nat, vi = .int .i64 k ∧ k ≤ n ∧ Hid (l.take k = l'.take k) ∧ Below w.heap.size w wr) (fun vi _ => n - (intOf vi).toNat)
 case atStart => exact ⟨0, rfl, Nat.zero_le _, by simp [Hid], Below.refl _ _⟩
 case round =>
  obtain ⟨k, rfl, hk, hall, hB⟩ := hrel
  have hBs := hB.size
  by_cases hlt : k < n
  ·have hk1 : (k : Int) < (n : Int) := by omega
   obtain ⟨b, off, h, A1, n1, c1, ws, rfl, hb, hc0, hc1, hlk, hws⟩ := (HX.out.below hB rr).at_ hlt
   obtain ⟨b', off', h', A2, n2, c2, ws', rfl, hb', hd0, hd1, hlk', hws'⟩ := (HY.out.below hB rr).at_ hlt
   have HW := hI hws; clear hws
   have HW' := hI hws'; clear hws'
   have HLK := hI hlk; clear hlk
   have HLK' := hI hlk'; clear hlk'
   have hb1 : Below wr.heap.size wr ((wr.alloc (.cells #[.bool h, .slice A1 n1 c1] 57)).alloc (.cells #[.bool h', .slice A2 n2 c2] 57)) := bel
   have hB1 := hB.trans (hb1.mono hBs)
   go_wp2_with fail
   refine (pEqual_c ⟨h, (A1, n1, c1, ws)⟩ ⟨h', (A2, n2, c2, ws')⟩ _ (HW.out.below hb1 rr) (HW'.out.below hb1 rr)).mono ?_
   obtain ⟨d, hd⟩ : ∃ d, d = decide (FormR.data ⟨h, (A1, n1, c1, ws)⟩ = FormR.data ⟨h', (A2, n2, c2, ws')⟩) := ⟨_, rfl⟩
   rw [← hd]
   have HD : Hid (d = decide ((h, ws) = (h', ws'))) := hd
   clear hd
   rintro e w3 ⟨rfl, hb3⟩
   have hB3 := hB1.trans (hb3.mono hB1.size)
   clear hb3 hb1 hc0 hc1 hd0 hd1
   cases d
   ·have HF : Hid (decide (l = l') = false) := decide_eq_false fun e => by
     have h1 := HLK.out
     rw [e, HLK'.out] at h1
     exact of_decide_eq_false HD.out.symm (Option.some.inj h1).symm
    go_wp2
    go_ret
    exact ⟨by rw [HF.out]; rfl, hB3⟩
   ·have HN : Hid (l.take (k + 1) = l'.take (k + 1)) := by
     show _ = _
     rw [take_snoc' l k _ HLK.out, take_snoc' l' k _ HLK'.out, hall.out, of_decide_eq_true HD.out.symm]
    go_wp2
    go_roundw
    case rel => exact ⟨k + 1, by go_num, by omega, HN.out, hB3⟩
    case measure => simp [intOf]; omega
  ·have hk1 : ¬ ((k : Int) < (n : Int)) := by omega
   have HF : Hid (decide (l = l') = true) := by
    have := hall.out
    rw [List.take_of_length_le (by rw [HX.out.len]; omega), List.take_of_length_le (by rw [HY.out.len]; omega)] at this
    exact decide_eq_true this
   go_wp2
   go_ret
   exact ⟨by rw [HF.out]; rfl, hB⟩
theorem pClasses1_c (A A' : Option Addr) (n n' c c' : Nat) (l l' : List Frm) (w : World) (hx : IsForms w A n c l) (hy : IsForms w A' n' c' l') :
  Calls Tryz.prog 98 #[.slice A n c, .slice A' n' c'] w fun e w' => e = .returned (.bool (decide (l = l'))) ∧ Below w.heap.size w w' := by
 have hc := equalF_c A A' n n' c c' l l' w hx hy
 clear hx hy
 go_enter Tryz.func98, Tryz.ntmps98
 go_wp2_with fail
 refine hc.mono ?_
 rintro e w1 ⟨rfl, hb⟩
 go_wp2
 go_ret
 exact ⟨rfl, hb⟩
theorem labelsR_c (A : Option Addr) (n c : Nat) (l : List (List Frm)) (w : World) (hx : IsPar w A n c l) (hn : n ≤ 4096) :
  Calls Tryz.prog 97 #[.slice A n c, .func (.func 98) #[] #[]] w (RetIntsN w (labelsM l)) := by
 have hE := enters_of Tryz.func98 (by kernel_rfl) rfl
 unfold Enters at hE
 go_enter Tryz.func97, Tryz.ntmps97
 have HX := hI hx; clear hx
 have hmk := fun w => run_make_row' (P := Tryz.prog) 43 3 (.int .i64 0) 8 Tryz.underlying43 int_info rfl .i64 .i64 n (by omega) (by omega) w
 go_wp2_with fail
 clear hmk
 rw [made_cnt]
 have kg : (w.alloc (.cells (cntC (List.replicate n 0)) 3)).heap[w.heap.size]? = some (.cells (cntC (List.replicate n 0)) 3 (0, 0)) := hpt
 have kB : Below w.heap.size w (w.alloc (.cells (cntC (List.replicate n 0)) 3)) := bel
 generalize (w.alloc (.cells (cntC (List.replicate n 0)) 3)) = V0 at *
 obtain ⟨g, eg⟩ : ∃ g, g = w.heap.size := ⟨_, rfl⟩
 rw [← eg] at kg ⊢
 have heg : w.heap.size ≤ g := Nat.le_of_eq eg.symm
 clear eg
 have KG := hI kg; clear kg
 have KB := hI kB; clear kB
 have hnm : n ≤ maxLen := by unfold maxLen; omega
 have HLL : Hid ((labelsM l).length = n) := by show _ = _; rw [labels_len, HX.out.len]
 go_loopw [13] (fun vi wr => ∃ (i : Nat) (row : List Int), vi = .int .i64 i ∧ i ≤ n ∧ Hid (wr.heap[g]? = some (.cells (cntC row) 3 (0, 0))) ∧ Hid (row = (labelsM l).take i ++ List.replicate (n - i) 0) ∧ Below w.heap.size w wr) (fun vi _ => n - (intOf vi).toNat)
 case atStart => exact ⟨0, List.replicate n 0, rfl, Nat.zero_le _, KG.out, by simp [Hid], KB.out⟩
 case round =>
  obtain ⟨i, row, rfl, hi, hh, hrow, hB⟩ := hrel
  have hBs := hB.size
  by_cases hlt : i < n
  ·have hi1 : (i : Int) < (n : Int) := by omega
   obtain ⟨b, off, A1, n1, c1, x, rfl, hb, hc00, hli, hws⟩ := HX.out.at_ hlt
   have hc0 := (hB.cell (p := ⟨b, off + i, none⟩) hb).trans hc00
   clear hc00
   have HLI := hI hli; clear hli
   have HW := hI hws; clear hws
   have hrl : row.length = n := by rw [hrow.out, List.length_append, List.length_take, List.length_replicate, HLL.out]; omega
   have HR0 : Hid (row[i]? = some 0) := by show _ = _; rw [hrow.out]; exact part_at hlt HLL.out
   go_wp2_with fail
   clear hc0
   obtain ⟨w0, hw0⟩ : ∃ w0, w0 = wr := ⟨_, rfl⟩
   rw [← hw0] at hh hB hBs
   go_loopw [] (fun wr => ∃ j : Nat, Hid (wr.heap[g]? = some (.cells (cntC (row.set i (j : Int))) 3 (0, 0))) ∧ Hid (j ≤ l.findIdx (fun y => decide (y = x))) ∧ Below w.heap.size w wr) (fun wr => n - (intOf ((wr.cell? ⟨g, i, none⟩).getD undef)).toNat)
   case atStart => exact ⟨0, by rw [show row.set i ((0 : Nat) : Int) = row from set_id HR0.out, ← hw0]; exact hh.out, Nat.zero_le _, by rw [← hw0]; exact hB⟩
   case round =>
    obtain ⟨j, HH5, hjl, hB5⟩ := hrel
    have hjlt : j ≤ i := Nat.le_trans hjl.out (lab_le HLI.out)
    have hB5s := hB5.size
    obtain ⟨b', off', A2, n2, c2, y, hA', hb', hd0, hlj, hws'⟩ := (HX.out.below hB5 rr).at_ (show j < n by omega)
    obtain ⟨rfl, rfl⟩ : b = b' ∧ off = off' := by simpa using hA'
    clear hA'
    have HLJ := hI hlj; clear hlj
    have HW' := hI hws'; clear hws'
    have k2 : wr.cell? ⟨g, i, none⟩ = some (.int .i64 j) := cntC_get HH5.out (by rw [List.getElem?_set_self (by omega)])
    have hj1 : (j : Int) < (n : Int) := by omega
    go_wp2_with fail
    refine (pClasses1_c A2 A1 n2 n1 c2 c1 y x _ HW'.out (HW.out.below hB5 rr)).mono ?_
    rintro e w6 ⟨rfl, hb6⟩
    have hB6 := hB5.trans (hb6.mono hB5s)
    have HH6 := hI ((hb6.block g (lt_of_block HH5.out)).trans HH5.out)
    obtain ⟨d, hd⟩ : ∃ d, d = decide (y = x) := ⟨_, rfl⟩
    rw [← hd]
    have HDD := hI hd
    clear hd hd0 k2 hb6
    cases d
    ·have heq : y ≠ x := of_decide_eq_false HDD.out.symm
     clear HDD
     have HNX : Hid (j + 1 ≤ l.findIdx (fun y => decide (y = x))) := lab_next HLJ.out hjl.out heq
     have hji : j + 1 ≤ i := Nat.le_trans HNX.out (lab_le HLI.out)
     clear heq
     have k2 : w6.cell? ⟨g, i, none⟩ = some (.int .i64 j) := cntC_get HH6.out (by rw [List.getElem?_set_self (by omega)])
     have k3 := frozen_of_row w6 g i _ _ HH6.out
     have hgs := lt_of_block HH6.out
     go_wp2
     have t1 : (w6.setCell ⟨g, i, none⟩ (.int .i64 ((j : Int) + 1))).heap[g]? = some (.cells (cntC (row.set i ((j + 1 : Nat) : Int))) 3 (0, 0)) := by
      have := heap_setCell_same (o := i) (u := .int .i64 ((j : Int) + 1)) HH6.out
      rw [cntC_set, List.set_set] at this
      exact this
     have hB7 : Below w.heap.size w (w6.setCell ⟨g, i, none⟩ (.int .i64 ((j : Int) + 1))) := hB6.setCell (p := ⟨g, i, none⟩) (by simp; omega) _
     go_roundw
     case rel => exact ⟨j + 1, t1, HNX.out, hB7⟩
     case measure => rw [cntC_meas t1 (by omega), cntC_meas HH5.out (by omega)]; omega
    ·have heq : y = x := of_decide_eq_true HDD.out.symm
     clear HDD
     have HN : Hid (row.set i (j : Int) = (labelsM l).take (i + 1) ++ List.replicate (n - (i + 1)) 0) := by
      show _ = _
      rw [hrow.out]
      exact set_part hlt HLL.out (by rw [labels_at HLI.out, lab_is HLJ.out hjl.out heq])
     clear heq
     go_wp2
     go_roundw
     case rel => exact ⟨i + 1, row.set i (j : Int), by go_num, by omega, HH6.out, HN.out, hB6⟩
     case measure => simp [intOf]; omega
  ·have hi1 : ¬ ((i : Int) < (n : Int)) := by omega
   have HD : Hid (row = labelsM l) := by show _ = _; rw [hrow.out, show n - i = 0 by omega, List.take_of_length_le (by rw [HLL.out]; omega)]; simp
   go_wp2
   go_ret
   exact ⟨some ⟨g, 0, none⟩, n, n, rfl, ints_row (by rw [← HD.out]; exact hh.out) HLL.out hnm, hB⟩
theorem pSame_c (A : Option Addr) (n c : Nat) (T : List (List Frm)) (r : Int) (w : World) (hx : IsPar w A n c T) (hr : -9223372036854775808 ≤ r ∧ r ≤ 9223372036854775807) :
  Calls Tryz.prog 33 #[.slice A n c, .int .i64 r] w (RetNsE w (pSameM T r)) := by
 have HX := hI hx; clear hx
 go_enter Tryz.func33, Tryz.ntmps33
 go_wp2_with fail
 refine (pLine_c A n c T r w HX.out hr).mono ?_
 rintro e w1 ⟨⟨h0, rfl⟩ | ⟨h0, A1, n1, c1, rfl, hf⟩, hB1⟩
 ·obtain ⟨er, her⟩ : ∃ er, er = lineE T r := ⟨_, rfl⟩
  rw [← her] at h0 ⊢
  have h1 : (er != 0) = true := by simpa using h0
  have HM : Hid (pSameM T r = (er, [])) := by show _ = _; unfold pSameM; rw [← her, if_pos h0]
  clear h0 her
  go_wp2
  go_ret2
  exact ⟨none, 0, 0, by rw [HM.out]; rfl, by rw [HM.out]; exact Cells.nil _ _, hB1⟩
 have HM : Hid (pSameM T r = (0, labelsM (lineR T r))) := by show _ = _; unfold pSameM; rw [if_neg (by simpa using h0)]
 obtain ⟨h3, _, _, h6⟩ := line_good h0
 have h16 := (shape_len (par_shape h3)).2.1 _ (List.mem_of_getElem? h6)
 rw [hf.len] at h16
 have HF := hI hf
 clear hf h3 h6 h0
 go_wp2_with fail
 refine (labelsF_c A1 n1 c1 (lineR T r) w1 HF.out (by omega)).mono ?_
 rintro e w2 ⟨A3, n3, c3, rfl, hi, hb2⟩
 have HI := hI hi; clear hi
 go_wp2
 go_ret2
 exact ⟨A3, n3, c3, by rw [HM.out]; rfl, by rw [HM.out]; exact HI.out, hB1.trans (hb2.mono hB1.size)⟩
theorem pClasses_c (A : Option Addr) (n c : Nat) (T : List (List Frm)) (w : World) (hx : IsPar w A n c T) :
  Calls Tryz.prog 35 #[.slice A n c] w (RetNsE w (pClassM T)) := by
 have hm := hx.max
 have HX := hI hx; clear hx
 go_enter Tryz.func35, Tryz.ntmps35
 go_wp2_with fail
 refine (pCheck_c A n c T w HX.out).mono ?_
 obtain ⟨er, her⟩ : ∃ er, er = parE T := ⟨_, rfl⟩
 rw [← her]
 rintro e w1 ⟨rfl, hB1⟩
 by_cases h0 : er = 0
 case neg =>
  have h1 : (er != 0) = true := by simpa using h0
  have HM : Hid (pClassM T = (er, [])) := by show _ = _; unfold pClassM; rw [← her, if_pos h0]
  clear h0 her
  go_wp2
  go_ret2
  exact ⟨none, 0, 0, by rw [HM.out]; rfl, by rw [HM.out]; exact Cells.nil _ _, hB1⟩
 have h1 : (er != 0) = false := by simpa using h0
 have HM : Hid (pClassM T = (0, labelsM (T.map endsOf))) := by show _ = _; unfold pClassM; rw [← her, if_neg (by simpa using h0)]
 have HPE : Hid (parE T = 0) := by show _ = _; rw [← her]; exact h0
 have hl := HX.out.len
 have h64 := (shape_len (par_shape HPE.out)).1
 rw [hl] at h64
 clear h0 her
 have HL := hI hl; clear hl
 have HB1 := hI hB1
 go_wp2_with fail
 go_loopw [5, 15] (fun v vi wr => ∃ (k : Nat) (rs : List RowR), vi = .int .i64 k ∧ k ≤ n ∧ rs.length ≤ k ∧ Hid (ParW wr w1.heap.size v rs) ∧ Hid (rs.map RowR.l = (T.take k).map endsOf) ∧ Below w1.heap.size w1 wr) (fun _ vi _ => n - (intOf vi).toNat)
 case atStart => exact ⟨0, [], rfl, Nat.zero_le _, rr, ParW.nil _, by simp [Hid], Below.refl _ _⟩
 case round =>
  obtain ⟨k, rs, rfl, hk, hrk, hpw, hdat, hB⟩ := hrel
  have hBs := hB.size
  have hBB := HB1.out.trans (hB.mono HB1.out.size)
  by_cases hlt : k < n
  ·have hk1 : (k : Int) < (n : Int) := by omega
   obtain ⟨b, off, A1, n1, c1, l, rfl, hb, hc0, hlk, hfl⟩ := (HX.out.below hBB rr).at_ hlt
   have hmem := List.mem_of_getElem? hlk
   have h16 := (shape_len (par_shape HPE.out)).2.1 _ hmem
   rw [hfl.len] at h16
   have HOK : Hid (∀ x ∈ l, x.2.length ≤ 4096) := fun x hx => by have := wcheck_len (words_all HPE.out hmem hx); omega
   have HF := hI hfl; clear hfl hmem
   have HLK := hI hlk; clear hlk
   go_wp2_with fail
   refine (pEnds_c A1 n1 c1 l wr HF.out (by omega) HOK.out).mono ?_
   rintro e w3 ⟨A3, n3, c3, rfl, ho, hb3⟩
   have hfa := hpw.out.fresh ho
   have hpw3 := hpw.out.below hb3
   have hB3 := hB.trans (hb3.mono hBs)
   have hb4 : Below w3.heap.size w3 (w3.alloc (.cells #[.slice A3 n3 c3] 62)) := bel
   have HFA := hI (hfa.below hb4)
   have HPW := hI (hpw3.below hb4)
   have hB4 := hB3.trans (hb4.mono hB3.size)
   have HN : Hid ((rs ++ [(⟨A3, n3, c3, endsOf l⟩ : RowR)]).map RowR.l = (T.take (k + 1)).map endsOf) := by
    show _ = _
    rw [take_snoc' T k _ HLK.out, List.map_append, List.map_append, hdat.out]; rfl
   clear ho hfa hpw hpw3 hb3 hc0
   obtain ⟨A8, c8, hv8⟩ := own_form HPW.out.own
   subst hv8
   go_wp2_with (at_builtin; refine append_fms rfl (.tmp 19) (.tmp 22) rfl w1.heap.size (.slice A8 rs.length c8) rs.length (rs.map RowR.val) rfl HPW.out.own ⟨w3.heap.size, 0, none⟩ 1 (.slice A3 n3 c3) rfl (cell_one_new _ _ _) rfl ?hl ?hz ?hc)
   case hl => omega
   case hz => exact hB4.size
   case hc =>
    intro v' w9 hown9 hg9 hat9
    have HP9 := hI (HPW.out.push HFA.out hown9 hg9 (by simpa using hat9))
    have hB9 : Below w1.heap.size w1 w9 := own_below hB4 HPW.out.own hg9 rr hB4.size
    clear hown9 hg9 hat9
    go_wp2
    go_roundw
    case rel => exact ⟨k + 1, _, by go_num, by omega, by rw [List.length_append, List.length_singleton]; omega, HP9.out, HN.out, hB9⟩
    case measure => simp [intOf]; omega
  ·have hk1 : ¬ ((k : Int) < (n : Int)) := by omega
   have HD : Hid (rs.map RowR.l = T.map endsOf) := by show _ = _; rw [hdat.out, List.take_of_length_le (by rw [HL.out]; omega)]
   obtain ⟨A8, c8, hv8⟩ := own_form hpw.out.own
   subst hv8
   have hip := hpw.out.par rfl
   rw [HD.out] at hip
   have HIP := hI hip; clear hip
   go_wp2_with fail
   refine (labelsR_c A8 rs.length c8 (T.map endsOf) wr HIP.out (by omega)).mono ?_
   rintro e w5 ⟨A5, n5, c5, rfl, hi, hb5⟩
   have HI := hI hi; clear hi
   go_wp2
   go_ret2
   exact ⟨A5, n5, c5, by rw [HM.out]; rfl, by rw [HM.out]; exact HI.out, hBB.trans (hb5.mono hBB.size)⟩
end Go.Proofs.YtlgliddhideflaaGreatDoor

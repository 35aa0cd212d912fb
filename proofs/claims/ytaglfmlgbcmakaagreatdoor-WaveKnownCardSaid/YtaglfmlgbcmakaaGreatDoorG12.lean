/-
  law.Trace.
-/
import Derived.Test.YtaglfmlgbcmakaaGreatDoorG11
set_option linter.all false
set_option maxRecDepth 100000
set_option maxHeartbeats 4000000
namespace Go.Proofs.YtaglfmlgbcmakaaGreatDoor
open Go.RowKit Go.Shelf
attribute [local go_sem] Oper.semAt_some
def RetTrace (w : World) (l : LawD) (ws : List Snd) (e : Ending) (w' : World) : Prop :=
 ∃ A1 c1 A2 n2 c2 ps, e = .returned (.tuple #[.slice A1 (traceM l ws).2.length c1, .slice A2 n2 c2, .int .i64 (traceM l ws).1]) ∧ Cells w' A1 (traceM l ws).2.length c1 1 (placesC (traceM l ws).2) ∧
  ps.map Part.word = (traceM l ws).2.map (·.2) ∧ Cells w' A2 n2 c2 1 (ps.map Part.val) ∧ Parts w' ps ∧ (∀ p ∈ ps, ∀ ad, p.1 = some ad → w.heap.size ≤ ad.block) ∧ Below w.heap.size w w'
theorem done_len {l : LawD} {ws : List Snd} {r : RS} {done : List (Int × List Snd)} (h : SoFar l ws r done) : done.length ≤ 80 := by
 obtain ⟨_, f, _, h⟩ := h
 have h1 := runM_len l ws 80 (startM l ws)
 rw [h] at h1
 simp at h1
 omega
def OnlyN (K : Act → World → Prop) : Exit → Act → World → Prop
 | .normal, a, w => K a w
 | _, _, _ => False
theorem wide_regionN {P : Program} {n : Nat} {id : Nat} {ops : Array Oper} {Q : Exit → Act → World → Prop} {a : Act} {w : World} (S : World → Prop) (hm : P.follows .mixedOrders = true)
  (hS : S w.drew) (h : S w.drew → anyT P .any ops (OnlyN (Q .normal)) S ops.size (Array.replicate ops.size false) a w.drew) : (Code.region id ops true).wpIn Fence.wide n P Q a w :=
 wpIn_mono (wide_region (Q := OnlyN (Q .normal)) S hm hS h) fun e a' w' hq => by
  cases e <;> first | exact hq | exact hq.elim
theorem IsWord.shut {B : Nat} {w w' : World} {A : Option Addr} {n c : Nat} {xs : List Snd} (h : IsWord w A n c xs) (hs : Shut B w w') : IsWord w' A n c xs := by
 obtain ⟨h1, h2, h3, h4, h5⟩ := h
 refine ⟨h1, h2, h3, h4, fun hn => ?_⟩
 obtain ⟨b, off, rfl, hlt, hc⟩ := h5 hn
 refine ⟨b, off, rfl, by rw [hs.size]; exact hlt, fun j v hv => ?_⟩
 rcases hs.block b with e | ⟨_, x, e⟩
 ·exact (World.cell?_of_block e).trans (hc j v hv)
 ·have := hc j v hv
  simp [World.cell?, e] at this
theorem one_cells {w : World} {b : Nat} {v : Value} {t : TypeId} (h : w.heap[b]? = some (.cells #[v] t (0, 0))) : ∀ j u, [v][j]? = some u → w.cell? ((⟨b, 0, none⟩ : Addr).add j) = some u := by
 intro j u hu
 rw [addr_add, Nat.zero_add, cell_of_row _ _ _ #[v] t (0, 0) h]
 simpa using hu
theorem trace_c (l : LawD) (a : LawA) (A : Option Addr) (n c : Nat) (ws : List Snd) (w : World) (hl : LawAt w l a) (hw : IsWord w A n c ws) (hT : TabOK w) :
  Calls Tryz.prog 187 #[lawV l a, .slice A n c] w (RetTrace w l ws) := by
 have HL := hI hl; clear hl
 have HW := hI hw; clear hw
 have HT := hI hT; clear hT
 obtain ⟨Wb, hWb, hrb, hlb, hBb, hzb⟩ := law_box w l a
 refine (callsIn_wide (n := 9)).1 (callsIn_of_wp_marks Tryz.func187 rfl trivial ?_ rfl)
 simp only [Tryz.ntmps187, List.size_toArray, List.length_cons, List.length_nil, Nat.reduceAdd, Nat.reduceSub, Array.replicate_succ, Array.replicate_zero, List.push_toArray, List.append_toArray, List.nil_append, List.cons_append]
 gi_wp2_with (refine load_lawIn rfl (.tmp 2) rfl w.heap.size l a rfl (t := 55) (fr := (0, 0)) (by repeat (first | exact hrb | rw [heap_old_at sd])) ?_)
 clear hWb
 have k0 : (((Wb.alloc (.cells #[.slice none 0 0] 36)).alloc (.cells #[.slice none 0 0] 34)).alloc (.cells #[.int .i64 0] 30)).heap[w.heap.size]? = some (.cells (lawCs l a) 55 (0, 0)) := by repeat (first | exact hrb | rw [heap_old_at sd])
 have k4 : (((Wb.alloc (.cells #[.slice none 0 0] 36)).alloc (.cells #[.slice none 0 0] 34)).alloc (.cells #[.int .i64 0] 30)).heap[Wb.heap.size]? = some (.cells #[.slice none 0 0] 36 (0, 0)) := hpt
 have k5 : (((Wb.alloc (.cells #[.slice none 0 0] 36)).alloc (.cells #[.slice none 0 0] 34)).alloc (.cells #[.int .i64 0] 30)).heap[Wb.heap.size + 1]? = some (.cells #[.slice none 0 0] 34 (0, 0)) := hpt
 have k6 : (((Wb.alloc (.cells #[.slice none 0 0] 36)).alloc (.cells #[.slice none 0 0] 34)).alloc (.cells #[.int .i64 0] 30)).heap[Wb.heap.size + 1 + 1]? = some (.cells #[.int .i64 0] 30 (0, 0)) := hpt
 have kB : Below w.heap.size w (((Wb.alloc (.cells #[.slice none 0 0] 36)).alloc (.cells #[.slice none 0 0] 34)).alloc (.cells #[.int .i64 0] 30)) := ((hBb.alloc (by omega) _).alloc (by simp; omega) _).alloc (by simp; omega) _
 generalize (((Wb.alloc (.cells #[.slice none 0 0] 36)).alloc (.cells #[.slice none 0 0] 34)).alloc (.cells #[.int .i64 0] 30)) = V0 at *
 refine ⟨trivial, ?_⟩
 refine (callsIn_wide.2 (lcheck_c l a A n c ws V0 (HL.out.below kB rr) (HW.out.below kB rr))).mono ?_
 rintro e w1 ⟨rfl, hb1⟩
 have h0 := (hb1.block _ (lt_of_block k0)).trans k0
 have h4 := (hb1.block _ (lt_of_block k4)).trans k4
 have h5 := (hb1.block _ (lt_of_block k5)).trans k5
 have h6 := (hb1.block _ (lt_of_block k6)).trans k6
 have hB1 : Below w.heap.size w w1 := kB.trans (hb1.mono kB.size)
 clear hb1 k0 k4 k5 k6 kB hrb
 have l6 := lt_of_block h6
 have c4 := cell_of_one h4
 have c5 := cell_of_one h5
 have c6 := cell_of_one h6
 have f4 := free_of_one h4
 have f5 := free_of_one h5
 have f6 := free_of_one h6
 have H0 := hI h0; clear h0
 have H4 := hI h4; clear h4
 have H5 := hI h5; clear h5
 have H6 := hI h6; clear h6
 have HB1 := hI hB1
 have hwb := hBb.size
 clear hBb hB1
 by_cases he : lcheckE l ws = 0
 case neg =>
  have he1 : (lcheckE l ws != 0) = true := by simpa using he
  have HM : Hid (traceM l ws = (lcheckE l ws, [])) := by show traceM l ws = _; unfold traceM; rw [if_pos he]
  clear he
  gi_wp2
  have x4 : (((w1.setCell ⟨Wb.heap.size, 0, none⟩ (.slice none 0 0)).setCell ⟨Wb.heap.size + 1, 0, none⟩ (.slice none 0 0)).setCell ⟨Wb.heap.size + 1 + 1, 0, none⟩ (.int .i64 (lcheckE l ws))).heap[Wb.heap.size]? = some (.cells #[.slice none 0 0] 36 (0, 0)) :=
   (Below.heap_setCell _ _ _ _ (by simp; try omega)).trans ((Below.heap_setCell _ _ _ _ (by simp)).trans (one_setCell H4.out))
  have x5 : (((w1.setCell ⟨Wb.heap.size, 0, none⟩ (.slice none 0 0)).setCell ⟨Wb.heap.size + 1, 0, none⟩ (.slice none 0 0)).setCell ⟨Wb.heap.size + 1 + 1, 0, none⟩ (.int .i64 (lcheckE l ws))).heap[Wb.heap.size + 1]? = some (.cells #[.slice none 0 0] 34 (0, 0)) :=
   (Below.heap_setCell _ _ _ _ (by simp)).trans (one_setCell ((Below.heap_setCell _ _ _ _ (by simp)).trans H5.out))
  have x6 : (((w1.setCell ⟨Wb.heap.size, 0, none⟩ (.slice none 0 0)).setCell ⟨Wb.heap.size + 1, 0, none⟩ (.slice none 0 0)).setCell ⟨Wb.heap.size + 1 + 1, 0, none⟩ (.int .i64 (lcheckE l ws))).heap[Wb.heap.size + 1 + 1]? = some (.cells #[.int .i64 (lcheckE l ws)] 30 (0, 0)) :=
   one_setCell ((Below.heap_setCell _ _ _ _ (by simp)).trans ((Below.heap_setCell _ _ _ _ (by simp; try omega)).trans H6.out))
  have xB : Below w.heap.size w (((w1.setCell ⟨Wb.heap.size, 0, none⟩ (.slice none 0 0)).setCell ⟨Wb.heap.size + 1, 0, none⟩ (.slice none 0 0)).setCell ⟨Wb.heap.size + 1 + 1, 0, none⟩ (.int .i64 (lcheckE l ws))) :=
   ((HB1.out.setCell (p := ⟨Wb.heap.size, 0, none⟩) (by simp; omega) _).setCell (p := ⟨Wb.heap.size + 1, 0, none⟩) (by simp; omega) _).setCell (p := ⟨Wb.heap.size + 1 + 1, 0, none⟩) (by simp; omega) _
  refine post_ret (B := w.heap.size) (by exact trivial) fun w' hw' => ⟨_, results_cells3 Tryz.results187 _ _ Wb.heap.size (Wb.heap.size + 1) (Wb.heap.size + 1 + 1) none none 0 0 0 0 (lcheckE l ws) rfl rfl rfl (cell_of_one (hw'.row x4)) (cell_of_one (hw'.row x5)) (cell_of_one (hw'.row x6)), ?_⟩
  refine ⟨none, 0, none, 0, 0, [], ?_, ?_, ?_, Cells.nil _ _, fun p hp => by simp at hp, fun p hp => by simp at hp, xB.trans hw'.below⟩
  ·rw [HM.out]; rfl
  ·rw [HM.out]; exact Cells.nil _ _
  ·rw [HM.out]; rfl
 have he1 : (lcheckE l ws != 0) = false := by simpa using he
 have HE := hI he; clear he
 gi_wp2_with (refine load_lawIn rfl (.tmp 2) rfl w.heap.size l a rfl (t := 55) (fr := (0, 0)) (by repeat (first | exact H0.out | rw [heap_old_at sd])) ?_)
 have k0 : ((w1.alloc (.cells #[.slice none 0 0] 36)).alloc (.cells #[.slice none 0 0] 34)).heap[w.heap.size]? = some (.cells (lawCs l a) 55 (0, 0)) := by repeat (first | exact H0.out | rw [heap_old_at sd])
 have k4 : ((w1.alloc (.cells #[.slice none 0 0] 36)).alloc (.cells #[.slice none 0 0] 34)).heap[Wb.heap.size]? = some (.cells #[.slice none 0 0] 36 (0, 0)) := by repeat (first | exact H4.out | rw [heap_old_at sd])
 have k5 : ((w1.alloc (.cells #[.slice none 0 0] 36)).alloc (.cells #[.slice none 0 0] 34)).heap[Wb.heap.size + 1]? = some (.cells #[.slice none 0 0] 34 (0, 0)) := by repeat (first | exact H5.out | rw [heap_old_at sd])
 have k6 : ((w1.alloc (.cells #[.slice none 0 0] 36)).alloc (.cells #[.slice none 0 0] 34)).heap[Wb.heap.size + 1 + 1]? = some (.cells #[.int .i64 0] 30 (0, 0)) := by repeat (first | exact H6.out | rw [heap_old_at sd])
 have k8 : ((w1.alloc (.cells #[.slice none 0 0] 36)).alloc (.cells #[.slice none 0 0] 34)).heap[w1.heap.size]? = some (.cells #[.slice none 0 0] 36 (0, 0)) := hpt
 have k9 : ((w1.alloc (.cells #[.slice none 0 0] 36)).alloc (.cells #[.slice none 0 0] 34)).heap[w1.heap.size + 1]? = some (.cells #[.slice none 0 0] 34 (0, 0)) := hpt
 have kB : Below w.heap.size w ((w1.alloc (.cells #[.slice none 0 0] 36)).alloc (.cells #[.slice none 0 0] 34)) := (HB1.out.alloc HB1.out.size _).alloc (by have := HB1.out.size; simp; omega) _
 clear c4 c5 c6 f4 f5 f6
 generalize ((w1.alloc (.cells #[.slice none 0 0] 36)).alloc (.cells #[.slice none 0 0] 34)) = V1 at *
 refine ⟨trivial, ?_⟩
 refine (callsIn_wide.2 (run_c l a A n c V1)).mono ?_
 rintro e w2 ⟨bw, bl, bk, bm, rfl, r1, r2, r3, r4, s1, s2, s3, s4, hb2⟩
 have hBr := hI (And.intro r1 (And.intro r2 (And.intro r3 r4)))
 have h4 := hI ((hb2.block _ (lt_of_block k4)).trans k4)
 have h5 := hI ((hb2.block _ (lt_of_block k5)).trans k5)
 have h6 := hI ((hb2.block _ (lt_of_block k6)).trans k6)
 have h8 := hI ((hb2.block _ (lt_of_block k8)).trans k8)
 have h9 := hI ((hb2.block _ (lt_of_block k9)).trans k9)
 have hB2 := hI (kB.trans (hb2.mono kB.size))
 have l9 := lt_of_block k9
 have l62 := lt_of_block r1
 have l63 := lt_of_block r2
 have l64 := lt_of_block r3
 have l65 := lt_of_block r4
 have l66 := hb2.size
 clear hb2 r1 r2 r3 r4 k0 k4 k5 k6 k8 k9 kB
 gi_wp2
 have HM := law_ok (show lawE l = 0 from by
  have h := HE.out
  unfold lcheckE at h
  by_cases h0 : lawE l = 0
  ·exact h0
  ·rw [if_neg h0] at h; exact h)
 have hn32 : n ≤ 32 := by
  have h := HE.out
  unfold lcheckE at h
  by_cases h0 : lawE l = 0
  ·rw [if_pos h0] at h
   unfold wcheck at h
   have hl := HW.out.len
   rcases Nat.lt_or_ge 32 ws.length with h1 | h1
   ·rw [if_pos h1] at h; exact absurd h (by decide)
   ·omega
  ·rw [if_neg h0] at h; exact absurd h h0
 have hv0 : lawE l = 0 := by
  have h := HE.out
  unfold lcheckE at h
  by_cases h0 : lawE l = 0
  ·exact h0
  ·rw [if_neg h0] at h; exact h
 have HV := hI hv0; clear hv0
 have HMode := hI HM.2.2.1
 clear HM
 obtain ⟨b4, e4⟩ : ∃ b4, b4 = Wb.heap.size := ⟨_, rfl⟩
 obtain ⟨b5, e5⟩ : ∃ b5, b5 = Wb.heap.size + 1 := ⟨_, rfl⟩
 obtain ⟨b6, e6⟩ : ∃ b6, b6 = Wb.heap.size + 1 + 1 := ⟨_, rfl⟩
 obtain ⟨b8, e8⟩ : ∃ b8, b8 = w1.heap.size := ⟨_, rfl⟩
 obtain ⟨b9, e9⟩ : ∃ b9, b9 = w1.heap.size + 1 := ⟨_, rfl⟩
 rw [← e4] at h4
 rw [← e5] at h5
 rw [← e6] at h6
 rw [← e8] at h8
 rw [← e9] at h9
 rw [← e6, ← e5, ← e4, ← e9, ← e8]
 have i45 : b4 < b5 := by omega
 have i56 : b5 < b6 := by omega
 have i68 : b6 < b8 := by omega
 have i89 : b8 < b9 := by omega
 have i9v : b9 < V1.heap.size := by omega
 have iw4 : w.heap.size ≤ b4 := by omega
 clear e4 e5 e6 e8 e9 l6 l9
 refine wide_range (gf := 204) (lb := #[.pointer (some ⟨bw, 0, none⟩), .pointer (some ⟨bl, 0, none⟩), .pointer (some ⟨bk, 0, none⟩), .pointer (some ⟨bm, 0, none⟩)]) rfl (enters_of Tryz.func204 (by kernel_rfl) rfl) fun fn D lr rc W1 hrc hD hlr hK2 hD1 hl1 hs2 => ?_
 have HRC := hI hrc; clear hrc
 have hDl : D < lr := by omega
 have hlW : lr < W1.heap.size := by omega
 have hD2 : w2.heap.size ≤ D := by omega
 clear hs2 hD hlr
 obtain ⟨J, hJ⟩ : ∃ J : RS → TU → World → Prop, J = fun r T W => ∃ vp vw done ps, SoFar l ws r done ∧ TS W1.heap.size b4 b5 b6 b8 b9 lr rc W1 vp vw done ps T .ready W := ⟨_, rfl⟩
 have HJ := hI hJ; clear hJ
 obtain ⟨Jx, hJx⟩ : ∃ Jx : RS → TU → World → Prop, Jx = fun _ T W => (runM l ws 80 (startM l ws)).2 = true ∧ Keep (fun k => k = b4 ∨ k = b5 ∨ k = b6 ∨ k = b8 ∨ k = b9 ∨ k = lr) W1 W ∧ W.heap[b4]? = some (.cells #[.slice none 0 0] 36 (0, 0)) ∧
   W.heap[b5]? = some (.cells #[.slice none 0 0] 34 (0, 0)) ∧ W.heap[b6]? = some (.cells #[.int .i64 11] 30 (0, 0)) ∧ W.heap[lr]? = some (.loop (rc .done (some .ret))) ∧
   (∀ k, T.all k → k < W.heap.size ∧ ∀ x, W.heap[k]? ≠ some (.deferred x)) ∧ T.w b4 ∧ T.w b5 ∧ T.w b6 ∧ T.w lr := ⟨_, rfl⟩
 have HJx := hI hJx; clear hJx
 have HD1 := hI hD1; clear hD1
 have hBW1 := hI (hB2.out.trans (hK2.to_below (B := w2.heap.size) (fun k hk => hk.elim) rr |>.mono hB2.out.size))
 have H0x : Hid (J (startM l ws) ⟨fun k => k = b4 ∨ k = b5 ∨ k = b6 ∨ k = b8 ∨ k = b9 ∨ k = lr ∨ (Value.slice none 0 0).ownBlock = some k ∨ (Value.slice none 0 0).ownBlock = some k, fun k => ∃ p ∈ ([] : List Part), 0 < p.2.1 ∧ ∃ ad, p.1 = some ad ∧ ad.block = k⟩ W1) := by
  show J _ _ _
  rw [HJ.out]
  refine ⟨.slice none 0 0, .slice none 0 0, [], [], SoFar.start l ws (by rw [HW.out.len]; exact hn32), rfl, rfl, ⟨by omega, by omega, by omega, by omega, by omega, by omega⟩, ⟨by omega, by omega, by omega, by omega, by omega, by omega, by omega, by omega, by omega, by omega, by omega, by omega, by omega, by omega, by omega⟩,
   (hK2.block _ (lt_of_block h4.out) (by simp)).trans h4.out, (hK2.block _ (lt_of_block h5.out) (by simp)).trans h5.out, (hK2.block _ (lt_of_block h6.out) (by simp)).trans h6.out, (hK2.block _ (lt_of_block h8.out) (by simp)).trans h8.out, (hK2.block _ (lt_of_block h9.out) (by simp)).trans h9.out,
   World.ownsRow_nil _ _ _ _, World.ownsRow_nil _ _ _ _, (fun k hk => by cases hk), rfl, fun p hp => by simp at hp, fun p hp => by simp at hp, Keep.refl _ _, rfl, hl1⟩
 have HR : Hid (RunUse lr bw bl bk bm l a A n c ws W1.heap.size J Jx) := by
  refine ⟨?hlt, ?hst, ?hsx, ?hrd, ?hnd, ?hnx, ?hskip, ?hy⟩
  case hlt =>
   intro r T W hx k hk
   rw [HJ.out] at hx
   obtain ⟨vp, vw, done, ps, _, hx⟩ := hx
   exact hx.lts k hk
  case hst =>
   intro r T W W' hx hKe
   rw [HJ.out] at hx ⊢
   obtain ⟨vp, vw, done, ps, hs, hx⟩ := hx
   exact ⟨vp, vw, done, ps, hs, hx.keep hKe⟩
  case hsx =>
   intro r T W W' hx hKe
   rw [HJx.out] at hx ⊢
   obtain ⟨x1, x2, x3, x4, x5, x6, x7, t4, t5, t6, t7⟩ := hx
   have hin : ∀ k, T.all k → W'.heap[k]? = W.heap[k]? := fun k hT => hKe.block k (x7 k hT).1 (fun hn => hn.2 hT)
   exact ⟨x1, ((x2.mono (S' := fun k => (k = b4 ∨ k = b5 ∨ k = b6 ∨ k = b8 ∨ k = b9 ∨ k = lr) ∨ (W1.heap.size ≤ k ∧ ¬ T.all k)) (fun _ e => .inl e)).trans (hKe.mono fun _ e => .inr e)).old fun k hlt e => e.resolve_right fun e => by omega,
    (hin _ (.inl t4)).trans x3, (hin _ (.inl t5)).trans x4, (hin _ (.inl t6)).trans x5, (hin _ (.inl t7)).trans x6, fun k hk => ⟨Nat.lt_of_lt_of_le (x7 k hk).1 hKe.size, fun x => by rw [hin k hk]; exact (x7 k hk).2 x⟩, t4, t5, t6, t7⟩
  case hrd =>
   intro r T W hx
   rw [HJ.out] at hx
   obtain ⟨vp, vw, done, ps, hs, hx⟩ := hx
   have hkp := hx.kp
   have hBW : Below w.heap.size w W := hBW1.out.trans (hkp.to_below (fun k hk => by omega) hBW1.out.size)
   obtain ⟨r1, r2, r3, r4⟩ := hBr.out
   have hof : ∀ k, V1.heap.size ≤ k → k < w2.heap.size → W.heap[k]? = w2.heap[k]? := fun k h1 h2 => (hkp.block k (by omega) (by omega)).trans (hK2.block k h2 (by simp))
   exact ⟨(hof _ s2 l62).trans r1, (hof _ s1 l63).trans r2, (hof _ s3 l64).trans r3, (hof _ s4 l65).trans r4, HL.out.below hBW rr, HW.out.below hBW rr, HT.out.below hBW rr⟩
  case hnd =>
   intro r T W hx
   rw [HJ.out] at hx
   obtain ⟨vp, vw, done, ps, hs, hx⟩ := hx
   exact hx.nds
  case hnx =>
   intro r T W hx k hk
   rw [HJx.out] at hx
   exact (hx.2.2.2.2.2.2.1 k hk).2
  case hskip =>
   intro r T W r' hf hst hx
   rw [HJ.out] at hx ⊢
   obtain ⟨vp, vw, done, ps, hs, hx⟩ := hx
   exact ⟨vp, vw, done, ps, hs.skip HMode.out hf hst, hx⟩
  case hy =>
   intro r T W r' p now A' n' c' hf hst hwd hfr hx
   rw [HJ.out] at hx
   obtain ⟨vp, vw, done, ps, hs, hx⟩ := hx
   refine wide_round HRC.out hx.lp rfl ?_
   have HS := hI hs
   have HFIN := hI hf
   have HST := hI hst
   have HWD := hI hwd
   have HFR := hI hfr
   have HX := hI hx
   clear hf hst hwd hfr hx hs
   have hn63 : n' ≤ 9223372036854775807 := HWD.out.max
   gi_wp2
   refine ⟨HX.out.lp, ?_⟩
   have hxv := HX.out.put .busy
   have hwv : IsWord (W.putObj lr (.loop (rc .busy none))) A' n' c' now := HWD.out.keep (S := fun k => k = lr) ((Keep.refl (fun k => k = lr) W).putObj rfl _) fun _ ad had e => (HFR.out ad had).2 (.inl (by rw [HX.out.tw]; simp [e]))
   have hkv : Keep (fun k => k = lr) W (W.putObj lr (.loop (rc .busy none))) := (Keep.refl (fun k => k = lr) W).putObj rfl _
   have hsv : (W.putObj lr (.loop (rc .busy none))).heap.size = W.heap.size := by simp
   generalize W.putObj lr (.loop (rc .busy none)) = V at *
   have c4 := cell_of_one hxv.c4
   have c5 := cell_of_one hxv.c5
   have c6 := cell_of_one hxv.c6
   have c8 := cell_of_one hxv.c8
   have c9 := cell_of_one hxv.c9
   have f4 := free_of_one hxv.c4
   have f5 := free_of_one hxv.c5
   have f6 := free_of_one hxv.c6
   have f8 := free_of_one hxv.c8
   have f9 := free_of_one hxv.c9
   have HXV := hI hxv; clear hxv
   have HWV := hI hwv; clear hwv
   have HKV := hI hkv; clear hkv
   have HSV := hI hsv; clear hsv
   have hdl := done_len HS.out
   have hl8 := HXV.out.lt.2.2.2.1
   have hl9 := HXV.out.lt.2.2.2.2.1
   by_cases h32 : 32 < n'
   ·gi_wp2
    have xK : Keep T.w W (((V.setCell ⟨b4, 0, none⟩ (.slice none 0 0)).setCell ⟨b5, 0, none⟩ (.slice none 0 0)).setCell ⟨b6, 0, none⟩ (.int .i64 11)) :=
     (((HKV.out.mono (S' := T.w) (fun k e => by rw [HX.out.tw]; simp [e])).setCell (p := ⟨b4, 0, none⟩) (by rw [HX.out.tw]; simp) _).setCell (p := ⟨b5, 0, none⟩) (by rw [HX.out.tw]; simp) _).setCell (p := ⟨b6, 0, none⟩) (by rw [HX.out.tw]; simp) _
    have xP : Keep (fun k => k = b4 ∨ k = b5 ∨ k = b6 ∨ k = b8 ∨ k = b9 ∨ k = lr) W1 (((V.setCell ⟨b4, 0, none⟩ (.slice none 0 0)).setCell ⟨b5, 0, none⟩ (.slice none 0 0)).setCell ⟨b6, 0, none⟩ (.int .i64 11)) :=
     ((HXV.out.kp.setCell (p := ⟨b4, 0, none⟩) (by simp) _).setCell (p := ⟨b5, 0, none⟩) (by simp) _).setCell (p := ⟨b6, 0, none⟩) (by simp) _
    have xo : ∀ k, k ≠ b4 → k ≠ b5 → k ≠ b6 → (((V.setCell ⟨b4, 0, none⟩ (.slice none 0 0)).setCell ⟨b5, 0, none⟩ (.slice none 0 0)).setCell ⟨b6, 0, none⟩ (.int .i64 11)).heap[k]? = V.heap[k]? := fun k h1 h2 h3 =>
     (Below.heap_setCell _ _ _ _ (by simpa using h3)).trans ((Below.heap_setCell _ _ _ _ (by simpa using h2)).trans (Below.heap_setCell _ _ _ _ (by simpa using h1)))
    have x4 : (((V.setCell ⟨b4, 0, none⟩ (.slice none 0 0)).setCell ⟨b5, 0, none⟩ (.slice none 0 0)).setCell ⟨b6, 0, none⟩ (.int .i64 11)).heap[b4]? = some (.cells #[.slice none 0 0] 36 (0, 0)) :=
     (Below.heap_setCell _ _ _ _ (by simp; omega)).trans ((Below.heap_setCell _ _ _ _ (by simp; omega)).trans (one_setCell HXV.out.c4))
    have x5 : (((V.setCell ⟨b4, 0, none⟩ (.slice none 0 0)).setCell ⟨b5, 0, none⟩ (.slice none 0 0)).setCell ⟨b6, 0, none⟩ (.int .i64 11)).heap[b5]? = some (.cells #[.slice none 0 0] 34 (0, 0)) :=
     (Below.heap_setCell _ _ _ _ (by simp; omega)).trans (one_setCell ((Below.heap_setCell _ _ _ _ (by simp; omega)).trans HXV.out.c5))
    have x6 : (((V.setCell ⟨b4, 0, none⟩ (.slice none 0 0)).setCell ⟨b5, 0, none⟩ (.slice none 0 0)).setCell ⟨b6, 0, none⟩ (.int .i64 11)).heap[b6]? = some (.cells #[.int .i64 11] 30 (0, 0)) :=
     one_setCell ((Below.heap_setCell _ _ _ _ (by simp; omega)).trans ((Below.heap_setCell _ _ _ _ (by simp; omega)).trans HXV.out.c6))
    have xs : (((V.setCell ⟨b4, 0, none⟩ (.slice none 0 0)).setCell ⟨b5, 0, none⟩ (.slice none 0 0)).setCell ⟨b6, 0, none⟩ (.int .i64 11)).heap.size = V.heap.size := by simp
    have hds := HXV.out.ds
    have hlt := HXV.out.lt
    have xl := (xo lr (by omega) (by omega) (by omega)).trans HXV.out.lp
    generalize (((V.setCell ⟨b4, 0, none⟩ (.slice none 0 0)).setCell ⟨b5, 0, none⟩ (.slice none 0 0)).setCell ⟨b6, 0, none⟩ (.int .i64 11)) = X at *
    refine ⟨xl, .inr ⟨rfl, ?_, xK.putObj (by rw [HX.out.tw]; simp) _⟩⟩
    have po : ∀ k, k ≠ lr → (X.putObj lr (.loop (rc .done (some .ret)))).heap[k]? = X.heap[k]? := fun k hk => World.putObj_heap_other hk
    have pl : (X.putObj lr (.loop (rc .done (some .ret)))).heap[lr]? = some (.loop (rc .done (some .ret))) := World.putObj_heap_same (lt_of_block xl)
    rw [HJx.out]
    refine ⟨HS.out.long HMode.out HFIN.out HST.out (by rw [HWD.out.len]; exact h32), xP.putObj (by simp) _, (po _ (by omega)).trans x4, (po _ (by omega)).trans x5, (po _ (by omega)).trans x6, pl, fun k hk => ⟨?_, fun x => ?_⟩, ?_, ?_, ?_, ?_⟩
    ·have h1 := HXV.out.lts k hk; have h2 : (X.putObj lr (.loop (rc .done (some .ret)))).heap.size = X.heap.size := by simp
     omega
    ·by_cases e : k = lr
     ·subst e; rw [pl]; simp
     rw [po k e]
     by_cases e4 : k = b4
     ·subst e4; rw [x4]; simp
     by_cases e5 : k = b5
     ·subst e5; rw [x5]; simp
     by_cases e6 : k = b6
     ·subst e6; rw [x6]; simp
     rw [xo k e4 e5 e6]
     exact HXV.out.nds k hk x
    ·rw [HX.out.tw]; simp
    ·rw [HX.out.tw]; simp
    ·rw [HX.out.tw]; simp
    ·rw [HX.out.tw]; simp
   ·gi_wp2
    clear c4 c5 c6 f4 f5 f6 f8 f9
    refine round_regionU 7 (fun W' => W'.cell? ⟨b8, 0, none⟩ = some vp ∧ W'.cell? ⟨b9, 0, none⟩ = some vw) (by kernel_rfl) (by kernel_rfl) (fun _ _ h => by exact h) ⟨c8, c9⟩ (fun hHeld => ?_)
    (refine' anyU_take (i := 0) 3 (v := _) rfl (by kernel_rfl) (by kernel_rfl) (by kernel_rfl) (by kernel_rfl) (fun _ _ _ h => h) (Or.inl ⟨by rfl, fun w' hSw => by (try dsimp only at hSw); go_split_ands; go_simp; (try with_reducible rfl)⟩) (by assumption) ?_; (try simp only [Act.put, nY, nX])); (refine' anyU_take (i := 1) 2 (v := _) rfl (by kernel_rfl) (by kernel_rfl) (by kernel_rfl) (by kernel_rfl) (fun _ _ _ h => h) (Or.inl ⟨by rfl, fun w' hSw => by (try dsimp only at hSw); go_split_ands; go_simp; (try with_reducible rfl)⟩) (by assumption) ?_; (try simp only [Act.put, nY, nX])); (refine' anyU_take (i := 4) 7 (v := _) rfl (by kernel_rfl) (by kernel_rfl) (by kernel_rfl) (by kernel_rfl) (fun _ _ _ h => h) (Or.inl ⟨by rfl, fun w' hSw => by (try dsimp only at hSw); go_split_ands; go_simp; (try with_reducible rfl)⟩) (by assumption) ?_; (try simp only [Act.put, nY, nX])); (refine' anyU_take (i := 5) 6 (v := _) rfl (by kernel_rfl) (by kernel_rfl) (by kernel_rfl) (by kernel_rfl) (fun _ _ _ h => h) (Or.inl ⟨by rfl, fun w' hSw => by (try dsimp only at hSw); go_split_ands; go_simp; (try with_reducible rfl)⟩) (by assumption) ?_; (try simp only [Act.put, nY, nX]))
    have t0 := HXV.out.tr
    refine anyU_two (i := 2) (j := 6) (by kernel_rfl) rfl rfl (fun K' hK' => ?_) (fun K' hK' => ?_)
    ·have t1 := (t0.alloc (.cells #[.int .i64 p] 3)).drew
     have z1 : (V.alloc (.cells #[.int .i64 p] 3)).drew.heap[V.heap.size]? = some (.cells #[.int .i64 p] 3 (0, 0)) := heap_new_at rfl
     rw [if_pos (by rfl)]
     go_simp
     refine hK' _ _ ⟨.inr ⟨cell_of_one t1.c8, cell_of_one t1.c9⟩, fun _ => ?_⟩
     clear hK' K'
     (try simp only [Act.put, nY, nX])
     first | generalize (V.alloc (.cells #[.int .i64 p] 3)).drew = X1 at * | generalize (V.alloc (.cells #[.int .i64 p] 3)) = X1 at *
     refine anyU_two (i := 3) (j := 6) (by kernel_rfl) rfl rfl (fun K' hK' => ?_) (fun K' hK' => ?_)
     ·rw [if_pos (by rfl)]
      refine wp_append_own_at (.tmp 26) (.tmp 28) 36 rfl W1.heap.size 3 (.int .i64 0) 1 8 Tryz.underlying36 int_info rfl (by decide) vp done.length (placesC done) (by rfl) t1.o8 ⟨V.heap.size, 0, none⟩ 1 1 [.int .i64 p] (by rfl) rfl (one_cells z1) (by intro u hu; simp at hu; subst hu; rfl) (by unfold maxLen; omega) (by omega) (by have := t1.kp.size; have := HXV.out.kp.size; omega) ?_
      intro vp' X2 hown hg _ hat
      have t2 := t1.push8 hl8 hl9 hown hg hat
      refine hK' _ _ ⟨.inr ⟨cell_of_one t2.c8, cell_of_one t2.c9⟩, fun _ => ?_⟩
      clear hK' K' hown hat
      (try simp only [Act.put, nY, nX])
      have t3 := t2.alloc (.cells #[.slice A' n' c'] 28)
      have z3 : (X2.alloc (.cells #[.slice A' n' c'] 28)).heap[X2.heap.size]? = some (.cells #[.slice A' n' c'] 28 (0, 0)) := heap_new_at rfl
      refine anyU_step (i := 6) (by kernel_rfl) rfl (fun K' hK' => ?_)
      rw [if_pos (by rfl)]
      go_simp
      refine hK' _ _ ⟨.inr ⟨cell_of_one t3.c8, cell_of_one t3.c9⟩, fun _ => ?_⟩
      clear hK' K'
      (try simp only [Act.put, nY, nX])
      first | generalize (X2.alloc (.cells #[.slice A' n' c'] 28)).drew = X3 at * | generalize (X2.alloc (.cells #[.slice A' n' c'] 28)) = X3 at *
      refine anyU_step (i := 7) (by kernel_rfl) rfl (fun K' hK' => ?_)
      rw [if_pos (by rfl)]
      refine wp_append_own_at (.tmp 30) (.tmp 32) 34 rfl W1.heap.size 28 (.slice none 0 0) 1 24 Tryz.underlying34 words_info rfl (by decide) vw done.length (ps.map Part.val) (by rfl) t3.o9 ⟨X2.heap.size, 0, none⟩ 1 1 [.slice A' n' c'] (by rfl) rfl (one_cells z3) (by intro u hu; simp at hu; subst hu; rfl) (by unfold maxLen; omega) (by omega) (by have := t3.kp.size; have := HXV.out.kp.size; omega) ?_
      intro vw' X4 hown hg2 _ hat
      have t4 := t3.push9 hl8 hl9 hown hg2 hat
      refine hK' _ _ ⟨.inl (by kernel_rfl), fun _ => anyU_of_T _ _ _ _ (by kernel_rfl) ?_⟩
      clear hK' K' hown hat
      (try simp only [Act.put, nY, nX])
      have T4 := hI t4
      clear t1 t2 t3 z1 z3 t0 hg hg2 t4 hHeld c8 c9
      obtain ⟨A8, k8, rfl⟩ := own_form T4.out.o8
      obtain ⟨A9, k9, rfl⟩ := own_form T4.out.o9
      have c8 := cell_of_one T4.out.c8
      have f8 := free_of_one T4.out.c8
      (refine anyT_sp 8 rfl (fun K' hK' => ?_); simp only [nY]; go_simp)
      refine hK' _ _ ⟨.inr trivial, fun _ => ?_⟩
      clear hK' K' c8 f8
      obtain ⟨X5, hX5⟩ : ∃ X5, X4.setCell ⟨b8, 0, none⟩ (.slice A8 (done.length + 1) k8) = X5 := ⟨_, rfl⟩
      have g9 : X5.heap[b9]? = some (.cells #[vw] 34 (0, 0)) := by rw [← hX5]; exact (Below.heap_setCell _ _ _ _ (by simp; omega)).trans T4.out.c9
      rw [hX5]
      have HX5 := hI hX5; clear hX5
      have c9 := cell_of_one g9
      have f9 := free_of_one g9
      clear g9
      (try simp only [Act.put, nY, nX])
      (refine anyT_sp 9 rfl (fun K' hK' => ?_); simp only [nY]; go_simp)
      refine hK' _ _ ⟨.inr trivial, fun _ => anyT_done (by kernel_rfl) ?_ _⟩
      clear hK' K' c9 f9
      obtain ⟨T', p1, p2, p3, p4⟩ := HXV.out.push (p := p) HWV.out HFR.out T4.out
      rw [HX5.out] at p1 p2
      rw [HSV.out] at p3 p4
      refine ⟨p1.lp, .inl ⟨rfl, by rw [HWD.out.len]; omega, T', ?_, ((HKV.out.mono (S' := T.w) (fun k e => by rw [HX.out.tw]; simp [e])).trans p2).putObj (by rw [HX.out.tw]; simp) _, p3, p4⟩⟩
      rw [HJ.out]
      exact ⟨_, _, _, _, HS.out.step HMode.out HFIN.out HST.out (by rw [HWD.out.len]; omega), p1.put .ready⟩
     ·have t2 := t1.alloc (.cells #[.slice A' n' c'] 28)
      have z2 : (X1.alloc (.cells #[.slice A' n' c'] 28)).heap[V.heap.size]? = some (.cells #[.int .i64 p] 3 (0, 0)) := (heap_old_at (lt_of_block z1)).trans z1
      have z3 : (X1.alloc (.cells #[.slice A' n' c'] 28)).heap[X1.heap.size]? = some (.cells #[.slice A' n' c'] 28 (0, 0)) := heap_new_at rfl
      have hX1 := t1.kp.size
      rw [if_pos (by rfl)]
      go_simp
      refine hK' _ _ ⟨.inr ⟨cell_of_one t2.c8, cell_of_one t2.c9⟩, fun _ => ?_⟩
      clear hK' K'
      (try simp only [Act.put, nY, nX])
      first | generalize (X1.alloc (.cells #[.slice A' n' c'] 28)).drew = X2 at * | generalize (X1.alloc (.cells #[.slice A' n' c'] 28)) = X2 at *
      refine anyU_step (i := 3) (by kernel_rfl) rfl (fun K' hK' => ?_)
      rw [if_pos (by rfl)]
      refine wp_append_own_at (.tmp 26) (.tmp 28) 36 rfl W1.heap.size 3 (.int .i64 0) 1 8 Tryz.underlying36 int_info rfl (by decide) vp done.length (placesC done) (by rfl) t2.o8 ⟨V.heap.size, 0, none⟩ 1 1 [.int .i64 p] (by rfl) rfl (one_cells z2) (by intro u hu; simp at hu; subst hu; rfl) (by unfold maxLen; omega) (by omega) (by have := t2.kp.size; have := HXV.out.kp.size; omega) ?_
      intro vp' X3 hown hg _ hat
      have t3 := t2.push8 hl8 hl9 hown hg hat
      refine hK' _ _ ⟨.inr ⟨cell_of_one t3.c8, cell_of_one t3.c9⟩, fun _ => ?_⟩
      clear hK' K' hown hat
      (try simp only [Act.put, nY, nX])
      have z4 : X3.heap[X1.heap.size]? = some (.cells #[.slice A' n' c'] 28 (0, 0)) := (hg.block _ (lt_of_block z3) (fun e => by have := (t0.o8.lt _ e.symm).2; omega)).trans z3
      refine anyU_step (i := 7) (by kernel_rfl) rfl (fun K' hK' => ?_)
      rw [if_pos (by rfl)]
      refine wp_append_own_at (.tmp 30) (.tmp 32) 34 rfl W1.heap.size 28 (.slice none 0 0) 1 24 Tryz.underlying34 words_info rfl (by decide) vw done.length (ps.map Part.val) (by rfl) t3.o9 ⟨X1.heap.size, 0, none⟩ 1 1 [.slice A' n' c'] (by rfl) rfl (one_cells z4) (by intro u hu; simp at hu; subst hu; rfl) (by unfold maxLen; omega) (by omega) (by have := t3.kp.size; have := HXV.out.kp.size; omega) ?_
      intro vw' X4 hown hg2 _ hat
      have t4 := t3.push9 hl8 hl9 hown hg2 hat
      refine hK' _ _ ⟨.inl (by kernel_rfl), fun _ => anyU_of_T _ _ _ _ (by kernel_rfl) ?_⟩
      clear hK' K' hown hat
      (try simp only [Act.put, nY, nX])
      have T4 := hI t4
      clear t1 t2 t3 z1 z2 z3 z4 t0 hg hg2 t4 hHeld c8 c9 hX1
      obtain ⟨A8, k8, rfl⟩ := own_form T4.out.o8
      obtain ⟨A9, k9, rfl⟩ := own_form T4.out.o9
      have c8 := cell_of_one T4.out.c8
      have f8 := free_of_one T4.out.c8
      (refine anyT_sp 8 rfl (fun K' hK' => ?_); simp only [nY]; go_simp)
      refine hK' _ _ ⟨.inr trivial, fun _ => ?_⟩
      clear hK' K' c8 f8
      obtain ⟨X5, hX5⟩ : ∃ X5, X4.setCell ⟨b8, 0, none⟩ (.slice A8 (done.length + 1) k8) = X5 := ⟨_, rfl⟩
      have g9 : X5.heap[b9]? = some (.cells #[vw] 34 (0, 0)) := by rw [← hX5]; exact (Below.heap_setCell _ _ _ _ (by simp; omega)).trans T4.out.c9
      rw [hX5]
      have HX5 := hI hX5; clear hX5
      have c9 := cell_of_one g9
      have f9 := free_of_one g9
      clear g9
      (try simp only [Act.put, nY, nX])
      (refine anyT_sp 9 rfl (fun K' hK' => ?_); simp only [nY]; go_simp)
      refine hK' _ _ ⟨.inr trivial, fun _ => anyT_done (by kernel_rfl) ?_ _⟩
      clear hK' K' c9 f9
      obtain ⟨T', p1, p2, p3, p4⟩ := HXV.out.push (p := p) HWV.out HFR.out T4.out
      rw [HX5.out] at p1 p2
      rw [HSV.out] at p3 p4
      refine ⟨p1.lp, .inl ⟨rfl, by rw [HWD.out.len]; omega, T', ?_, ((HKV.out.mono (S' := T.w) (fun k e => by rw [HX.out.tw]; simp [e])).trans p2).putObj (by rw [HX.out.tw]; simp) _, p3, p4⟩⟩
      rw [HJ.out]
      exact ⟨_, _, _, _, HS.out.step HMode.out HFIN.out HST.out (by rw [HWD.out.len]; omega), p1.put .ready⟩
    ·have t1 := (t0.alloc (.cells #[.slice A' n' c'] 28)).drew
     have z1 : (V.alloc (.cells #[.slice A' n' c'] 28)).drew.heap[V.heap.size]? = some (.cells #[.slice A' n' c'] 28 (0, 0)) := heap_new_at rfl
     rw [if_pos (by rfl)]
     go_simp
     refine hK' _ _ ⟨.inr ⟨cell_of_one t1.c8, cell_of_one t1.c9⟩, fun _ => ?_⟩
     clear hK' K'
     (try simp only [Act.put, nY, nX])
     first | generalize (V.alloc (.cells #[.slice A' n' c'] 28)).drew = X1 at * | generalize (V.alloc (.cells #[.slice A' n' c'] 28)) = X1 at *
     have t2 := t1.alloc (.cells #[.int .i64 p] 3)
     have z2 : (X1.alloc (.cells #[.int .i64 p] 3)).heap[V.heap.size]? = some (.cells #[.slice A' n' c'] 28 (0, 0)) := (heap_old_at (lt_of_block z1)).trans z1
     have z3 : (X1.alloc (.cells #[.int .i64 p] 3)).heap[X1.heap.size]? = some (.cells #[.int .i64 p] 3 (0, 0)) := heap_new_at rfl
     refine anyU_step (i := 2) (by kernel_rfl) rfl (fun K' hK' => ?_)
     rw [if_pos (by rfl)]
     go_simp
     refine hK' _ _ ⟨.inr ⟨cell_of_one t2.c8, cell_of_one t2.c9⟩, fun _ => ?_⟩
     clear hK' K'
     (try simp only [Act.put, nY, nX])
     first | generalize (X1.alloc (.cells #[.int .i64 p] 3)).drew = X2 at * | generalize (X1.alloc (.cells #[.int .i64 p] 3)) = X2 at *
     refine anyU_step (i := 3) (by kernel_rfl) rfl (fun K' hK' => ?_)
     rw [if_pos (by rfl)]
     refine wp_append_own_at (.tmp 26) (.tmp 28) 36 rfl W1.heap.size 3 (.int .i64 0) 1 8 Tryz.underlying36 int_info rfl (by decide) vp done.length (placesC done) (by rfl) t2.o8 ⟨X1.heap.size, 0, none⟩ 1 1 [.int .i64 p] (by rfl) rfl (one_cells z3) (by intro u hu; simp at hu; subst hu; rfl) (by unfold maxLen; omega) (by omega) (by have := t2.kp.size; have := HXV.out.kp.size; omega) ?_
     intro vp' X3 hown hg _ hat
     have t3 := t2.push8 hl8 hl9 hown hg hat
     refine hK' _ _ ⟨.inr ⟨cell_of_one t3.c8, cell_of_one t3.c9⟩, fun _ => ?_⟩
     clear hK' K' hown hat
     (try simp only [Act.put, nY, nX])
     have z4 : X3.heap[V.heap.size]? = some (.cells #[.slice A' n' c'] 28 (0, 0)) := (hg.block _ (lt_of_block z2) (fun e => by have := (t0.o8.lt _ e.symm).2; omega)).trans z2
     refine anyU_step (i := 7) (by kernel_rfl) rfl (fun K' hK' => ?_)
     rw [if_pos (by rfl)]
     refine wp_append_own_at (.tmp 30) (.tmp 32) 34 rfl W1.heap.size 28 (.slice none 0 0) 1 24 Tryz.underlying34 words_info rfl (by decide) vw done.length (ps.map Part.val) (by rfl) t3.o9 ⟨V.heap.size, 0, none⟩ 1 1 [.slice A' n' c'] (by rfl) rfl (one_cells z4) (by intro u hu; simp at hu; subst hu; rfl) (by unfold maxLen; omega) (by omega) (by have := t3.kp.size; have := HXV.out.kp.size; omega) ?_
     intro vw' X4 hown hg2 _ hat
     have t4 := t3.push9 hl8 hl9 hown hg2 hat
     refine hK' _ _ ⟨.inl (by kernel_rfl), fun _ => anyU_of_T _ _ _ _ (by kernel_rfl) ?_⟩
     clear hK' K' hown hat
     (try simp only [Act.put, nY, nX])
     have T4 := hI t4
     clear t1 t2 t3 z1 z2 z3 z4 t0 hg hg2 t4 hHeld c8 c9
     obtain ⟨A8, k8, rfl⟩ := own_form T4.out.o8
     obtain ⟨A9, k9, rfl⟩ := own_form T4.out.o9
     have c8 := cell_of_one T4.out.c8
     have f8 := free_of_one T4.out.c8
     (refine anyT_sp 8 rfl (fun K' hK' => ?_); simp only [nY]; go_simp)
     refine hK' _ _ ⟨.inr trivial, fun _ => ?_⟩
     clear hK' K' c8 f8
     obtain ⟨X5, hX5⟩ : ∃ X5, X4.setCell ⟨b8, 0, none⟩ (.slice A8 (done.length + 1) k8) = X5 := ⟨_, rfl⟩
     have g9 : X5.heap[b9]? = some (.cells #[vw] 34 (0, 0)) := by rw [← hX5]; exact (Below.heap_setCell _ _ _ _ (by simp; omega)).trans T4.out.c9
     rw [hX5]
     have HX5 := hI hX5; clear hX5
     have c9 := cell_of_one g9
     have f9 := free_of_one g9
     clear g9
     (try simp only [Act.put, nY, nX])
     (refine anyT_sp 9 rfl (fun K' hK' => ?_); simp only [nY]; go_simp)
     refine hK' _ _ ⟨.inr trivial, fun _ => anyT_done (by kernel_rfl) ?_ _⟩
     clear hK' K' c9 f9
     obtain ⟨T', p1, p2, p3, p4⟩ := HXV.out.push (p := p) HWV.out HFR.out T4.out
     rw [HX5.out] at p1 p2
     rw [HSV.out] at p3 p4
     refine ⟨p1.lp, .inl ⟨rfl, by rw [HWD.out.len]; omega, T', ?_, ((HKV.out.mono (S' := T.w) (fun k e => by rw [HX.out.tw]; simp [e])).trans p2).putObj (by rw [HX.out.tw]; simp) _, p3, p4⟩⟩
     rw [HJ.out]
     exact ⟨_, _, _, _, HS.out.step HMode.out HFIN.out HST.out (by rw [HWD.out.len]; omega), p1.put .ready⟩
 refine (run1_c (9 - 1) lr bw bl bk bm (by omega) l a A n c ws W1 J Jx _ HR.out H0x.out HV.out hn32).mono ?_
 rintro e W' ⟨⟨v, rfl⟩, ⟨r, T, q1, hx⟩ | ⟨r, T, hx⟩⟩
 ·rw [HJ.out] at hx
  obtain ⟨vp, vw, done, ps, hs, hx⟩ := hx
  refine .inl ⟨hx.lp, ?_⟩
  have HTM : Hid (traceM l ws = (0, done)) := by
   show traceM l ws = _
   unfold traceM; rw [if_neg (by rw [HE.out]; simp), hs.fin q1]; rfl
  clear hs q1
  have hxv := hx.put .exhausted
  clear hx
  generalize W'.putObj lr (.loop (rc .exhausted none)) = X at *
  obtain ⟨A8, k8, rfl⟩ := own_form hxv.o8
  obtain ⟨A9, k9, rfl⟩ := own_form hxv.o9
  have c8 := cell_of_one hxv.c8
  have c9 := cell_of_one hxv.c9
  have c4 := cell_of_one hxv.c4
  have c5 := cell_of_one hxv.c5
  have c6 := cell_of_one hxv.c6
  have f4 := free_of_one hxv.c4
  have f5 := free_of_one hxv.c5
  have f6 := free_of_one hxv.c6
  have HXV := hI hxv; clear hxv
  gi_wp2
  refine wide_regionN (fun W' => W'.cell? ⟨b8, 0, none⟩ = some (.slice A8 done.length k8) ∧ W'.cell? ⟨b9, 0, none⟩ = some (.slice A9 done.length k9)) (by kernel_rfl) ⟨c8, c9⟩ (fun hHeld => ?_)
  (refine' anyT_tk 0 rfl ?_; (try simp only [Act.put, nY, nX])); (refine' anyT_tk 1 rfl ?_; (try simp only [Act.put, nY, nX]))
  (refine anyT_sp 2 rfl (fun K' hK' => ?_); simp only [nY]; go_simp)
  clear c4 f4
  have hds := HXV.out.ds
  have hlt := HXV.out.lt
  obtain ⟨Y, hY⟩ : ∃ Y, X.setCell ⟨b4, 0, none⟩ (.slice A8 done.length k8) = Y := ⟨_, rfl⟩
  have y4 : Y.heap[b4]? = some (.cells #[.slice A8 done.length k8] 36 (0, 0)) := by rw [← hY]; exact one_setCell HXV.out.c4
  have yo : ∀ k, k ≠ b4 → Y.heap[k]? = X.heap[k]? := fun k hk => by rw [← hY]; exact Below.heap_setCell _ _ _ _ (by simpa using hk)
  have yK : Keep (fun k => k = b4 ∨ k = b5 ∨ k = b6) X Y := by rw [← hY]; exact (Keep.refl (fun k => k = b4 ∨ k = b5 ∨ k = b6) X).setCell (p := ⟨b4, 0, none⟩) (.inl rfl) _
  rw [hY]
  clear hY
  have y5 := (yo b5 (by omega)).trans HXV.out.c5
  have y6 := (yo b6 (by omega)).trans HXV.out.c6
  have y8 := (yo b8 (by omega)).trans HXV.out.c8
  have y9 := (yo b9 (by omega)).trans HXV.out.c9
  refine hK' _ _ ⟨.inr ⟨cell_of_one y8, cell_of_one y9⟩, fun _ => ?_⟩
  clear hK' K' c5 c6 c8 c9 f5 f6
  have c5 := cell_of_one y5
  have f5 := free_of_one y5
  (try simp only [Act.put, nY, nX])
  (refine anyT_sp 3 rfl (fun K' hK' => ?_); simp only [nY]; go_simp)
  obtain ⟨Z, hZ⟩ : ∃ Z, Y.setCell ⟨b5, 0, none⟩ (.slice A9 done.length k9) = Z := ⟨_, rfl⟩
  have z5 : Z.heap[b5]? = some (.cells #[.slice A9 done.length k9] 34 (0, 0)) := by rw [← hZ]; exact one_setCell y5
  have zo : ∀ k, k ≠ b5 → Z.heap[k]? = Y.heap[k]? := fun k hk => by rw [← hZ]; exact Below.heap_setCell _ _ _ _ (by simpa using hk)
  have zK : Keep (fun k => k = b4 ∨ k = b5 ∨ k = b6) X Z := by rw [← hZ]; exact yK.setCell (p := ⟨b5, 0, none⟩) (.inr (.inl rfl)) _
  try rw [hZ]
  clear hZ
  have z4 := (zo b4 (by omega)).trans y4
  have z6 := (zo b6 (by omega)).trans y6
  have z8 := (zo b8 (by omega)).trans y8
  have z9 := (zo b9 (by omega)).trans y9
  refine hK' _ _ ⟨.inr ⟨cell_of_one z8, cell_of_one z9⟩, fun _ => ?_⟩
  clear hK' K' c5 f5 y4 y5 y6 y8 y9
  have c6 := cell_of_one z6
  have f6 := free_of_one z6
  (try simp only [Act.put, nY, nX])
  (refine anyT_sp 4 rfl (fun K' hK' => ?_); simp only [nY]; go_simp)
  refine hK' _ _ ⟨.inl (by kernel_rfl), fun _ => anyT_done (by kernel_rfl) ?_ _⟩
  clear hK' K'
  obtain ⟨U, hU⟩ : ∃ U, Z.setCell ⟨b6, 0, none⟩ (.int .i64 0) = U := ⟨_, rfl⟩
  have u6 : U.heap[b6]? = some (.cells #[.int .i64 0] 30 (0, 0)) := by rw [← hU]; exact one_setCell z6
  have uo : ∀ k, k ≠ b6 → U.heap[k]? = Z.heap[k]? := fun k hk => by rw [← hU]; exact Below.heap_setCell _ _ _ _ (by simpa using hk)
  have uK : Keep (fun k => k = b4 ∨ k = b5 ∨ k = b6) X U := by rw [← hU]; exact zK.setCell (p := ⟨b6, 0, none⟩) (.inr (.inr rfl)) _
  try rw [hU]
  clear hU
  have u4 := (uo b4 (by omega)).trans z4
  have u5 := (uo b5 (by omega)).trans z5
  have uP := HXV.out.kp.trans (uK.mono (S' := fun k => k = b4 ∨ k = b5 ∨ k = b6 ∨ k = b8 ∨ k = b9 ∨ k = lr) (fun k e => by rcases e with e | e | e <;> simp [e]))
  have uo8 : U.ownsRow W1.heap.size 3 1 (.slice A8 done.length k8) done.length (placesC done) := own_heap HXV.out.o8 fun k e => by
   have := (HXV.out.o8.lt k e).1
   exact uK.block k (HXV.out.o8.lt k e).2 (by omega)
  have uo9 : U.ownsRow W1.heap.size 28 1 (.slice A9 done.length k9) done.length (ps.map Part.val) := own_heap HXV.out.o9 fun k e => by
   have := (HXV.out.o9.lt k e).1
   exact uK.block k (HXV.out.o9.lt k e).2 (by omega)
  have upp : Parts U ps := fun p hp => (HXV.out.pp p hp).keep uK fun hn ad had e => by
   have := (HXV.out.pd p hp ad had).1
   omega
  clear c6 f6 z4 z5 z6 z8 z9
  have U4 := hI u4; clear u4
  have U5 := hI u5; clear u5
  have U6 := hI u6; clear u6
  have UO8 := hI uo8; clear uo8
  have UO9 := hI uo9; clear uo9
  have UPP := hI upp; clear upp
  have UP := hI uP; clear uP uK zK yK uo zo yo
  clear hds
  have hWD : W1.heap.size ≤ U.heap.size := UP.out.size
  have hlow := hBW1.out.size
  simp only [OnlyN]
  gi_wp2
  have hM : Marks w.heap.size U.drew [mark D] := ⟨D, rfl, by have := hB2.out.size; omega, (UP.out.block D (by omega) (by omega)).trans HD1.out, by simp, trivial⟩
  refine post_ret (B := w.heap.size) hM fun w' hw' => ⟨_, results_cells3 Tryz.results187 _ _ b4 b5 b6 A8 A9 done.length k8 done.length k9 0 rfl rfl rfl (cell_of_one (hw'.row (w := U.drew) U4.out)) (cell_of_one (hw'.row (w := U.drew) U5.out)) (cell_of_one (hw'.row (w := U.drew) U6.out)), ?_⟩
  have o8' := own_shut (w := U.drew) UO8.out hw'
  have o9' := own_shut (w := U.drew) UO9.out hw'
  refine ⟨A8, k8, A9, done.length, k9, ps, ?_, ?_, ?_, Cells.of_own o9' (by decide), fun p hp => ?_, fun p hp ad had => ?_, (hBW1.out.trans (UP.out.drew.to_below (fun k hk => by omega) hBW1.out.size)).trans hw'.below⟩
  ·rw [HTM.out]
  ·rw [HTM.out]; exact Cells.of_own o8' (by decide)
  ·rw [HTM.out]; exact HXV.out.pw
  ·exact IsWord.shut (w := U.drew) (UPP.out p hp) hw'
  ·have := (HXV.out.pd p hp ad had).1
   omega
 ·rw [HJx.out] at hx
  obtain ⟨x1, x2, x3, x4, x5, x6, _⟩ := hx
  refine .inr ⟨.ret, x6, ?_⟩
  have HTM : Hid (traceM l ws = (11, [])) := by
   show traceM l ws = _
   unfold traceM; rw [if_neg (by rw [HE.out]; simp), if_pos x1]
  have hKf := x2.putObj (l := lr) (by simp) (.loop (rc .exhausted (some .ret)))
  have po : ∀ k, k ≠ lr → (W'.putObj lr (.loop (rc .exhausted (some .ret)))).heap[k]? = W'.heap[k]? := fun k hk => World.putObj_heap_other hk
  have y4 := (po b4 (by omega)).trans x3
  have y5 := (po b5 (by omega)).trans x4
  have y6 := (po b6 (by omega)).trans x5
  clear po x1 x2 x3 x4 x5 x6
  generalize W'.putObj lr (.loop (rc .exhausted (some .ret))) = X at *
  gi_wp2
  have hM : Marks w.heap.size X [mark D] := ⟨D, rfl, by have := hB2.out.size; omega, (hKf.block D (by omega) (by omega)).trans HD1.out, by simp, trivial⟩
  refine post_ret (B := w.heap.size) hM fun w' hw' => ⟨_, results_cells3 Tryz.results187 _ _ b4 b5 b6 none none 0 0 0 0 11 rfl rfl rfl (cell_of_one (hw'.row y4)) (cell_of_one (hw'.row y5)) (cell_of_one (hw'.row y6)), ?_⟩
  refine ⟨none, 0, none, 0, 0, [], ?_, ?_, ?_, Cells.nil _ _, fun p hp => by simp at hp, fun p hp => by simp at hp, (hBW1.out.trans (hKf.to_below (fun k hk => by omega) hBW1.out.size)).trans hw'.below⟩
  ·rw [HTM.out]; rfl
  ·rw [HTM.out]; exact Cells.nil _ _
  ·rw [HTM.out]; rfl
end Go.Proofs.YtaglfmlgbcmakaaGreatDoor

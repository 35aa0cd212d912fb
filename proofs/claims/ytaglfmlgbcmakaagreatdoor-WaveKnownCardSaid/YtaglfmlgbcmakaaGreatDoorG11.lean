/-
  The iterator of law.run: laws that go over all places.
  The iterator of law.run, for any valid law; what law.Trace and law.Apply return, as it is reckoned.
  law.run's replacements come to an end: how many steps are left at most. The results of law.Trace lie in three cells.
  law.Trace: the range over law.run's function, and the rows of places and words.
-/
import Derived.Test.YtaglfmlgbcmakaaGreatDoorG10
set_option linter.all false
set_option maxRecDepth 100000
set_option maxHeartbeats 4000000
namespace Go.Proofs.YtaglfmlgbcmakaaGreatDoor
open Go.RowKit Go.Shelf
attribute [local go_sem] Oper.semAt_some
theorem run1_all (m lr bw bl bk bm : Nat) (hm : 3 ≤ m) (l : LawD) (a : LawA) (A : Option Addr) (n c : Nat) (ws : List Snd) (W : World) (J Jx : RS → TU → World → Prop) (T0 : TU)
  (H : RunUse lr bw bl bk bm l a A n c ws W.heap.size J Jx) (h0 : J (startM l ws) T0 W) (hmode : l.mode = 1) (hn : n ≤ 32) (hfit : ∀ x ∈ l.outs, fitsM x l.ifs.length = true) (ho : l.outs.length ≤ 64) (hk : l.ifs.length ≤ 64) :
  CallsIn Fence.wide m Tryz.prog 204 #[.func (.yield lr) #[] #[], .pointer (some ⟨bw, 0, none⟩), .pointer (some ⟨bl, 0, none⟩), .pointer (some ⟨bk, 0, none⟩), .pointer (some ⟨bm, 0, none⟩)] W fun e W' =>
   (∃ v, e = .returned v) ∧ ((∃ r T, finM l ws r = true ∧ J r T W') ∨ ∃ r T, Jx r T W') := by
 have hm1 : 1 ≤ m := by omega
 have hT0 := H.hlt _ _ _ h0
 obtain ⟨r1, r2, r3, r4, r5, r6, r7⟩ := H.hrd _ _ _ h0
 have hbl := lt_of_block r1
 have hbw := lt_of_block r2
 have hbk := lt_of_block r3
 have hbm := lt_of_block r4
 obtain ⟨d0, d1, d2, d3⟩ := law_reads r1
 have e2 := cell_of_one r2
 have hwl : ws.length = n := r6.len
 have HWL := hI hwl; clear hwl
 rw [hmode] at d3
 have HM := hI hmode; clear hmode
 have HU := hI H; clear H
 have HF := hI hfit; clear hfit
 have H0 := hI h0
 have R1 := hI r1
 clear h0 r1 r2 r3 r4 r5 r6 r7 d0 d1 d2
 have hbw1 : bw < W.heap.size + 1 := by omega
 have hbw2 : bw < W.heap.size + 1 + 1 := by omega
 have hbw3 : bw < W.heap.size + 1 + 1 + 1 := by omega
 refine callsIn_of_wp_marks Tryz.func204 rfl trivial ?_ rfl
 simp only [Tryz.ntmps204, List.size_toArray, List.length_cons, List.length_nil, Nat.reduceAdd, Nat.reduceSub, Array.replicate_succ, Array.replicate_zero, List.push_toArray, List.append_toArray, List.nil_append, List.cons_append]
 gi_wp2_with (refine load_lawIn rfl (.tmp 2) rfl bl l a rfl (t := 55) (fr := (0, 0)) (by repeat (first | exact R1.out | rw [heap_old_at sd])) ?_)
 have g5 : ((((W.alloc (.cells #[.func (.yield lr) #[] #[]] 216)).alloc (.cells #[.slice A n c] 28)).alloc (.cells #[.int .i64 0] 3)).alloc (.cells #[.int .i64 0] 3)).heap[W.heap.size]? = some (.cells #[.func (.yield lr) #[] #[]] 216 (0, 0)) := hpt
 have g6 : ((((W.alloc (.cells #[.func (.yield lr) #[] #[]] 216)).alloc (.cells #[.slice A n c] 28)).alloc (.cells #[.int .i64 0] 3)).alloc (.cells #[.int .i64 0] 3)).heap[W.heap.size + 1]? = some (.cells #[.slice A n c] 28 (0, 0)) := hpt
 have g7 : ((((W.alloc (.cells #[.func (.yield lr) #[] #[]] 216)).alloc (.cells #[.slice A n c] 28)).alloc (.cells #[.int .i64 0] 3)).alloc (.cells #[.int .i64 0] 3)).heap[W.heap.size + 1 + 1]? = some (.cells #[.int .i64 0] 3 (0, 0)) := hpt
 have g8 : ((((W.alloc (.cells #[.func (.yield lr) #[] #[]] 216)).alloc (.cells #[.slice A n c] 28)).alloc (.cells #[.int .i64 0] 3)).alloc (.cells #[.int .i64 0] 3)).heap[W.heap.size + 1 + 1 + 1]? = some (.cells #[.int .i64 0] 3 (0, 0)) := hpt
 have g9 : Below W.heap.size W ((((W.alloc (.cells #[.func (.yield lr) #[] #[]] 216)).alloc (.cells #[.slice A n c] 28)).alloc (.cells #[.int .i64 0] 3)).alloc (.cells #[.int .i64 0] 3)) := bel
 have hz0 : ((((W.alloc (.cells #[.func (.yield lr) #[] #[]] 216)).alloc (.cells #[.slice A n c] 28)).alloc (.cells #[.int .i64 0] 3)).alloc (.cells #[.int .i64 0] 3)).heap.size = W.heap.size + 1 + 1 + 1 + 1 := by simp
 generalize ((((W.alloc (.cells #[.func (.yield lr) #[] #[]] 216)).alloc (.cells #[.slice A n c] 28)).alloc (.cells #[.int .i64 0] 3)).alloc (.cells #[.int .i64 0] 3)) = W0 at *
 clear hbw1 hbw2 hbw3 d3 e2
 refine ⟨trivial, ?_⟩
 refine (callsIn_wide.2 (hits_c l a A n c 0 W0)).mono ?_
 rintro e w1 ⟨rfl, rfl⟩
 have HZ0 := hI hz0; clear hz0
 gi_wp2
 have k1 : (((W0.alloc (.cells (lawCs l a) 55)).alloc (.cells #[.slice A n c] 28)).alloc (.cells #[.int .i64 0] 3)).heap[W0.heap.size]? = some (.cells (lawCs l a) 55 (0, 0)) := hpt
 have k2 : (((W0.alloc (.cells (lawCs l a) 55)).alloc (.cells #[.slice A n c] 28)).alloc (.cells #[.int .i64 0] 3)).heap[W0.heap.size + 1]? = some (.cells #[.slice A n c] 28 (0, 0)) := hpt
 have k3 : (((W0.alloc (.cells (lawCs l a) 55)).alloc (.cells #[.slice A n c] 28)).alloc (.cells #[.int .i64 0] 3)).heap[W0.heap.size + 1 + 1]? = some (.cells #[.int .i64 0] 3 (0, 0)) := hpt
 have kB : Below W0.heap.size W0 (((W0.alloc (.cells (lawCs l a) 55)).alloc (.cells #[.slice A n c] 28)).alloc (.cells #[.int .i64 0] 3)) := bel
 generalize hV1 : (((W0.alloc (.cells (lawCs l a) 55)).alloc (.cells #[.slice A n c] 28)).alloc (.cells #[.int .i64 0] 3)) = V1 at *
 clear hV1
 have hz0 := HZ0.out
 have hs1 := lt_of_block k3
 refine wide_range (gf := 215) (lb := #[.pointer (some ⟨W0.heap.size, 0, none⟩), .pointer (some ⟨W0.heap.size + 1, 0, none⟩), .pointer (some ⟨W0.heap.size + 1 + 1, 0, none⟩)]) rfl (enters_of Tryz.func215 (by kernel_rfl) rfl) fun fn D l2 rc W1 hrc hD hl2 hK2 hD1 hl1 hs2 => ?_
 have HRC := hI hrc; clear hrc
 have hDg : W0.heap.size + 1 + 1 < D := by omega
 have hDl : D + 1 = l2 := by omega
 have hlW : l2 + 1 = W1.heap.size := by omega
 have HDL := hI (And.intro hDl hlW)
 have hDl1 : D < l2 := by omega
 have hlW1 : l2 < W1.heap.size := by omega
 clear hs2 hD hl2 hDl hlW
 have HZ0' : W0.heap.size = W.heap.size + 1 + 1 + 1 + 1 := HZ0.out
 have hW0a : W.heap.size + 1 + 1 + 1 < W0.heap.size := by omega
 have HZ := hI HZ0'; clear HZ0' hz0 HZ0
 have hBW1 : Below W.heap.size W W1 := (g9.trans (kB.mono g9.size)).trans (hK2.to_below (fun k hk => hk.elim) (by have := g9.size; have := kB.size; omega))
 have hold : ∀ k, k < W0.heap.size → W1.heap[k]? = W0.heap[k]? := fun k hk => (hK2.block k (by omega) (by simp)).trans (kB.block k hk)
 have g51 := (hold _ (by omega)).trans g5
 have g61 := (hold _ (by omega)).trans g6
 have g71 := (hold _ (by omega)).trans g7
 have g81 := (hold _ (by omega)).trans g8
 have k11 := (hK2.block _ (by omega) (by simp)).trans k1
 have k21 := (hK2.block _ (by omega) (by simp)).trans k2
 have k31 := (hK2.block _ (by omega) (by simp)).trans k3
 have J1 := HU.out.hst _ T0 W W1 H0.out (keep_of_below hBW1)
 clear hold g5 g6 g7 g8 k1 k2 k3 hK2 kB g9
 obtain ⟨JJ, hJJ⟩ : ∃ JJ : Nat → (Nat → Prop) → World → Prop, JJ = fun (s : Nat) T' W' => ∃ (r : RS) (T : TU) (An : Option Addr) (nn cn : Nat),
   T' = (fun k => T.all k ∨ (W.heap.size + 1 ≤ k ∧ k ≤ W.heap.size + 1 + 1 + 1) ∨ k = l2 ∨ (0 < nn ∧ ∃ ad, An = some ad ∧ ad.block = k)) ∧ r.at_ = (s : Int) ∧ nn ≤ 32 ∧ (nn : Int) = n + r.shift ∧ 0 ≤ r.next + r.shift ∧ r.next ≤ 5000 ∧
   J r T W' ∧ W'.heap[W.heap.size]? = some (.cells #[.func (.yield lr) #[] #[]] 216 (0, 0)) ∧ W'.heap[W.heap.size + 1]? = some (.cells #[.slice An nn cn] 28 (0, 0)) ∧
   W'.heap[W.heap.size + 1 + 1]? = some (.cells #[.int .i64 r.next] 3 (0, 0)) ∧ W'.heap[W.heap.size + 1 + 1 + 1]? = some (.cells #[.int .i64 r.shift] 3 (0, 0)) ∧
   W'.heap[W0.heap.size]? = some (.cells (lawCs l a) 55 (0, 0)) ∧ W'.heap[W0.heap.size + 1]? = some (.cells #[.slice A n c] 28 (0, 0)) ∧
   NowOK D A n c ws T.w W' An nn cn r.now ∧ W'.heap[l2]? = some (.loop (rc .ready none)) ∧ W'.heap[D]? = some (.deferred (some [])) ∧ (∀ k, W.heap.size ≤ k → k < W1.heap.size → ¬ T.all k) ∧ W1.heap.size ≤ W'.heap.size := ⟨_, rfl⟩
 have HJJ := hI hJJ; clear hJJ
 obtain ⟨JX, hJX⟩ : ∃ JX : Nat → (Nat → Prop) → World → Prop, JX = fun _ _ W' => ∃ (r : RS) (T : TU), Jx r T W' ∧ W'.heap[l2]? = some (.loop (rc .done (some .ret))) ∧ W'.heap[D]? = some (.deferred (some [])) ∧ ¬ T.all l2 ∧ ¬ T.all D := ⟨_, rfl⟩
 have HJX := hI hJX; clear hJX
 refine (hits1_iter (m - 1) l2 W0.heap.size (W0.heap.size + 1) (W0.heap.size + 1 + 1) (by omega) l a A n c ws 0 JJ JX (fun k => T0.all k ∨ (W.heap.size + 1 ≤ k ∧ k ≤ W.heap.size + 1 + 1 + 1) ∨ k = l2 ∨ (0 < n ∧ ∃ ad, A = some ad ∧ ad.block = k)) W1 ?hlt ?hst ?hrd ?hskip ?hy ?h0 (cell_of_one k31) (by omega) (by omega) (by omega) hk).mono ?_
 case hlt =>
  intro s T' W' hx k hk
  rw [HJJ.out] at hx
  obtain ⟨r, T, An, nn, cn, rfl, h1, h2, h3, h4, h4b, h5, h6, h7, h8, h9, h10, h11, h12, h13, h14, h15, h16⟩ := hx
  rcases hk with hk | hk | rfl | ⟨hk, ad, rfl, hk2⟩
  ·exact HU.out.hlt _ _ _ h5 k hk
  ·have := lt_of_block h9; omega
  ·exact lt_of_block h13
  ·obtain ⟨b, off, hb, hlt, _⟩ := (h12.word (HU.out.hrd _ _ _ h5).2.2.2.2.2.1).2.2.2.2 hk
   injection hb with hb
   subst hb
   exact hk2 ▸ hlt
 case hst =>
  intro s T' W' W'' hx hKe
  rw [HJJ.out] at hx ⊢
  obtain ⟨r, T, An, nn, cn, rfl, h1, h2, h3, h4, h4b, h5, h6, h7, h8, h9, h10, h11, h12, h13, h14, h15, h16⟩ := hx
  have ho : ∀ k, k < W1.heap.size → W''.heap[k]? = W'.heap[k]? := fun k hk => hKe.block k (by omega) (fun h => by omega)
  refine ⟨r, T, An, nn, cn, rfl, h1, h2, h3, h4, h4b, HU.out.hst _ _ _ _ h5 (hKe.mono (fun k hk => ⟨by have := hBW1.size; omega, fun h => hk.2 (.inl h)⟩)), (ho _ (by omega)).trans h6, (ho _ (by omega)).trans h7, (ho _ (by omega)).trans h8, (ho _ (by omega)).trans h9,
   (ho _ (by omega)).trans h10, (ho _ (by omega)).trans h11, ?_, (ho _ hlW1).trans h13, (ho _ (by omega)).trans h14, h15, Nat.le_trans h16 hKe.size⟩
  rcases h12 with h12 | ⟨h12, hb⟩
  ·exact .inl h12
  ·exact .inr ⟨h12.keep hKe (fun hn ad had h => h.2 (.inr (.inr (.inr ⟨hn, ad, had, rfl⟩)))), fun hn ad had => ⟨(hb hn ad had).1, (hb hn ad had).2.1, Nat.lt_of_lt_of_le (hb hn ad had).2.2 hKe.size⟩⟩
 case hrd =>
  intro s T' W' hx
  rw [HJJ.out] at hx
  obtain ⟨r, T, An, nn, cn, rfl, h1, h2, h3, h4, h4b, h5, h6, h7, h8, h9, h10, h11, h12, h13, h14, h15, h16⟩ := hx
  obtain ⟨q1, q2, q3, q4, q5, q6, q7⟩ := HU.out.hrd _ _ _ h5
  exact ⟨h10, h11, q5, q6, q7⟩
 case hskip =>
  intro s T' W' q1 q2 q3 hx
  rw [HJJ.out] at hx ⊢
  obtain ⟨r, T, An, nn, cn, rfl, h1, h2, h3, h4, h4b, h5, h6, h7, h8, h9, h10, h11, h12, h13, h14, h15, h16⟩ := hx
  have hfin : finM l ws r = false := by unfold finM; rw [HM.out, h1, HWL.out]; simp; omega
  have hst : stepM l ws r = (none, { r with at_ := r.at_ + 1 }) := by unfold stepM; rw [HM.out, h1]; simp [q3]
  exact ⟨{ r with at_ := r.at_ + 1 }, T, An, nn, cn, rfl, by show r.at_ + 1 = _; rw [h1]; omega, h2, h3, h4, h4b, HU.out.hskip _ _ _ _ hfin hst h5, h6, h7, h8, h9, h10, h11, h12, h13, h14, h15, h16⟩
 case h0 =>
  rw [HJJ.out]
  have hst0 : startM l ws = ⟨0, 0, 0, ws⟩ := by unfold startM; rw [if_neg (by rw [HM.out]; decide)]
  refine ⟨startM l ws, T0, A, n, c, rfl, ?_, hn, ?_, ?_, ?_, J1, g51, g61, ?_, ?_, k11, k21, .inl ⟨rfl, rfl, rfl, ?_⟩, hl1, hD1, fun k h1 _ h => by have := hT0 _ h; omega, rr⟩
  all_goals rw [hst0]
  ·rfl
  ·simp
  ·simp
  ·simp
  ·exact g71
  ·exact g81
 case hy =>
  intro s T' W' _ q2 q3 hx
  rw [HJJ.out] at hx
  obtain ⟨r, T, An, nn, cn, rfl, h1, h2, h3, h4, h4b, h5, h6, h7, h8, h9, h10, h11, h12, h13, h14, h15, h16⟩ := hx
  have hfin : finM l ws r = false := by unfold finM; rw [HM.out, h1, HWL.out]; simp; omega
  have HFIN := hI hfin; clear hfin
  refine wide_round HRC.out h13 rfl ?_
  have HR1 := hI h1; clear h1
  have HR3 := hI h3; clear h3
  have HH5 := hI h5; clear h5
  have HH6 := hI h6; clear h6
  have HH7 := hI h7; clear h7
  have HH8 := hI h8; clear h8
  have HH9 := hI h9; clear h9
  have HH10 := hI h10; clear h10
  have HH11 := hI h11; clear h11
  have HH12 := hI h12; clear h12
  have HH13 := hI h13; clear h13
  have HH14 := hI h14; clear h14
  have HH15 := hI h15; clear h15
  have HQ3 := hI q3; clear q3
  gi_wp2
  refine ⟨HH13.out, ?_⟩
  have hbw' := hBW1.size
  have o2 : ∀ k, k ≠ l2 → (W'.putObj l2 (.loop (rc .busy none))).heap[k]? = W'.heap[k]? := fun k hk => World.putObj_heap_other hk
  have p13 : (W'.putObj l2 (.loop (rc .busy none))).heap[l2]? = some (.loop (rc .busy none)) := World.putObj_heap_same (lt_of_block HH13.out)
  have pK : Keep (fun k => k = l2) W' (W'.putObj l2 (.loop (rc .busy none))) := (Keep.refl (fun k => k = l2) W').putObj rfl _
  have p5 : J r T (W'.putObj l2 (.loop (rc .busy none))) := HU.out.hst _ _ _ _ HH5.out (pK.mono (fun k hk => by subst hk; exact ⟨by omega, HH15.out _ (by omega) hlW1⟩))
  have p6 := (o2 _ (by omega)).trans HH6.out
  have p7 := (o2 _ (by omega)).trans HH7.out
  have p8 := (o2 _ (by omega)).trans HH8.out
  have p9 := (o2 _ (by omega)).trans HH9.out
  have p10 := (o2 _ (by omega)).trans HH10.out
  have p11 := (o2 _ (by omega)).trans HH11.out
  have p14 := (o2 D (by omega)).trans HH14.out
  have p12 : NowOK D A n c ws T.w (W'.putObj l2 (.loop (rc .busy none))) An nn cn r.now := by
   rcases HH12.out with h | ⟨h, hb⟩
   ·exact .inl h
   ·have h2' := HDL.out.1
    exact .inr ⟨h.keep pK (fun hn ad had => by have := (hb hn ad had).1; omega), fun hn ad had => ⟨(hb hn ad had).1, (hb hn ad had).2.1, Nat.lt_of_lt_of_le (hb hn ad had).2.2 pK.size⟩⟩
  have p16 : W'.heap.size ≤ (W'.putObj l2 (.loop (rc .busy none))).heap.size := pK.size
  generalize W'.putObj l2 (.loop (rc .busy none)) = V at *
  obtain ⟨u1, u2, u3, u4, u5, u6, u7⟩ := HU.out.hrd _ _ _ p5
  have e7 := cell_of_one p7
  have f7 := free_of_one p7
  have e8 := cell_of_one p8
  have f8 := free_of_one p8
  have e9 := cell_of_one p9
  have f9 := free_of_one p9
  have eu2 := cell_of_one u2
  have eu3 := cell_of_one u3
  have eu4 := cell_of_one u4
  have P5 := hI p5; clear p5
  have P6 := hI p6; clear p6
  have P7 := hI p7; clear p7
  have P8 := hI p8; clear p8
  have P9 := hI p9; clear p9
  have P10 := hI p10; clear p10
  have P11 := hI p11; clear p11
  have P12 := hI p12; clear p12
  have P13 := hI p13; clear p13
  have P14 := hI p14; clear p14
  have PK := hI pK; clear pK o2
  have U1 := hI u1; have U5 := hI u5; have U6 := hI u6; have U7 := hI u7; clear u1 u2 u3 u4 u5 u6 u7
  have HFX : Hid (∀ (X : World) (r' : RS) (T4 : TU) (A2 : Option Addr) (n2 c2 : Nat), r'.at_ = ((s + 1 : Nat) : Int) → n2 ≤ 32 → (n2 : Int) = n + r'.shift → 0 ≤ r'.next + r'.shift → r'.next ≤ 5000 → J r' T4 X →
    X.heap[W.heap.size]? = some (.cells #[.func (.yield lr) #[] #[]] 216 (0, 0)) → X.heap[W.heap.size + 1]? = some (.cells #[.slice A2 n2 c2] 28 (0, 0)) →
    X.heap[W.heap.size + 1 + 1]? = some (.cells #[.int .i64 r'.next] 3 (0, 0)) → X.heap[W.heap.size + 1 + 1 + 1]? = some (.cells #[.int .i64 r'.shift] 3 (0, 0)) →
    X.heap[W0.heap.size]? = some (.cells (lawCs l a) 55 (0, 0)) → X.heap[W0.heap.size + 1]? = some (.cells #[.slice A n c] 28 (0, 0)) → NowOK D A n c ws T4.w X A2 n2 c2 r'.now →
    X.heap[l2]? = some (.loop (rc .busy none)) → X.heap[D]? = some (.deferred (some [])) → Keep (fun k => T.all k ∨ (W.heap.size + 1 ≤ k ∧ k ≤ W.heap.size + 1 + 1 + 1) ∨ k = l2 ∨ (0 < nn ∧ ∃ ad, An = some ad ∧ ad.block = k)) W' X → (∀ k, T4.all k → T.all k ∨ W'.heap.size ≤ k) →
    (0 < n2 → ∀ ad, A2 = some ad → (0 < nn ∧ An = some ad) ∨ W'.heap.size ≤ ad.block) →
    ∃ T'', JJ (s + 1) T'' (X.putObj l2 (.loop (rc .ready none))) ∧ Keep (fun k => T.all k ∨ (W.heap.size + 1 ≤ k ∧ k ≤ W.heap.size + 1 + 1 + 1) ∨ k = l2 ∨ (0 < nn ∧ ∃ ad, An = some ad ∧ ad.block = k)) W' (X.putObj l2 (.loop (rc .ready none))) ∧ ∀ k, T'' k → (fun k => T.all k ∨ (W.heap.size + 1 ≤ k ∧ k ≤ W.heap.size + 1 + 1 + 1) ∨ k = l2 ∨ (0 < nn ∧ ∃ ad, An = some ad ∧ ad.block = k)) k ∨ W'.heap.size ≤ k) := by
   intro X r' T4 A2 n2 c2 x1 x2 x3 x4 x5 x6 x7 x8 x9 x10 x11 x12 x13 x14 x15 x16 x17 x18
   have o2 : ∀ k, k ≠ l2 → (X.putObj l2 (.loop (rc .ready none))).heap[k]? = X.heap[k]? := fun k hk => World.putObj_heap_other hk
   have qK : Keep (fun k => k = l2) X (X.putObj l2 (.loop (rc .ready none))) := (Keep.refl (fun k => k = l2) X).putObj rfl _
   have hT4 : ∀ k, W.heap.size ≤ k → k < W1.heap.size → ¬ T4.all k := fun k hk1 hk2 h => (x17 k h).elim (HH15.out k hk1 hk2) (fun h3 => by omega)
   refine ⟨fun k => T4.all k ∨ (W.heap.size + 1 ≤ k ∧ k ≤ W.heap.size + 1 + 1 + 1) ∨ k = l2 ∨ (0 < n2 ∧ ∃ ad, A2 = some ad ∧ ad.block = k), ?_, x16.putObj (by simp) _, ?_⟩
   rotate_left
   ·rintro k (h | h | h | ⟨hn2, ad, had, hk2⟩)
    ·exact (x17 k h).elim (fun h => .inl (.inl h)) .inr
    ·exact .inl (.inr (.inl h))
    ·exact .inl (.inr (.inr (.inl h)))
    ·rcases x18 hn2 ad had with ⟨h1, h2⟩ | h1
     ·exact .inl (.inr (.inr (.inr ⟨h1, ad, h2, hk2⟩)))
     ·exact .inr (by omega)
   ·rw [HJJ.out]
    refine ⟨r', T4, A2, n2, c2, rfl, x1, x2, x3, x4, x5, HU.out.hst _ _ _ _ x6 (qK.mono (fun k hk => by subst hk; exact ⟨by omega, hT4 _ (by omega) hlW1⟩)), (o2 _ (by omega)).trans x7, (o2 _ (by omega)).trans x8, (o2 _ (by omega)).trans x9, (o2 _ (by omega)).trans x10,
     (o2 _ (by omega)).trans x11, (o2 _ (by omega)).trans x12, ?_, World.putObj_heap_same (lt_of_block x14), (o2 D (by omega)).trans x15, hT4, by have := x16.size; have := qK.size; omega⟩
    rcases x13 with h | ⟨h, hb⟩
    ·exact .inl h
    ·have h2' := HDL.out.1
     exact .inr ⟨h.keep qK (fun hn ad had => by have := (hb hn ad had).1; omega), fun hn ad had => ⟨(hb hn ad had).1, (hb hn ad had).2.1, Nat.lt_of_lt_of_le (hb hn ad had).2.2 qK.size⟩⟩
  by_cases hnx : (s : Int) < r.next
  ·have hst : stepM l ws r = (none, { r with at_ := r.at_ + 1 }) := by unfold stepM; rw [HM.out, HR1.out]; simp [hnx]
   have HST := hI hst; clear hst
   gi_wp2
   refine ⟨P13.out, .inl ⟨rfl, ?_⟩⟩
   exact HFX.out V { r with at_ := r.at_ + 1 } T An nn cn (by show r.at_ + 1 = _; rw [HR1.out]; omega) h2 HR3.out h4 h4b (HU.out.hskip _ _ _ _ HFIN.out HST.out P5.out) P6.out P7.out P8.out P9.out P10.out P11.out P12.out P13.out P14.out
    (PK.out.mono (fun k hk => .inr (.inr (.inl hk)))) (fun k hk => .inl hk) (fun hn ad had => .inl ⟨hn, had⟩)
  ·have hnx' : decide ((s : Int) < r.next) = false := by simpa using hnx
   have hnx0 : r.next ≤ (s : Int) := by omega
   gi_wp2
   have hsh0 : 0 ≤ (s : Int) + r.shift := by omega
   have hnn63 : nn ≤ cn := (P12.out.word U6.out).2.1
   have hcn63 : cn ≤ 9223372036854775807 := by have := (P12.out.word U6.out).2.2.1; unfold maxLen at this; omega
   have hnc63 : n ≤ c := U6.out.2.1
   have hc63 : c ≤ 9223372036854775807 := by have := U6.out.2.2.1; unfold maxLen at this; omega
   obtain ⟨e, he⟩ : ∃ e : Nat, (e : Int) = (s : Int) + r.shift := ⟨((s : Int) + r.shift).toNat, by omega⟩
   have hee : (s : Int) + r.shift = (e : Int) := he.symm
   have hen : e ≤ nn := by have := HR3.out; omega
   have HEE := hI hee
   have hi0 : (e : Int) ≤ (cn : Int) := by omega
   clear he hsh0
   have hv7 := lt_of_block P7.out
   have hv9 := lt_of_block P9.out
   have HSB : Hid (∀ X : World, Below V.heap.size V X → X.heap[bl]? = some (.cells (lawCs l a) 55 (0, 0)) ∧ X.cell? ⟨W.heap.size + 1, 0, none⟩ = some (.slice An nn cn) ∧ X.cell? ⟨W.heap.size + 1 + 1 + 1, 0, none⟩ = some (.int .i64 r.shift) ∧
     X.cell? ⟨bw, 0, none⟩ = some (.slice A n c) ∧ X.cell? ⟨bk, 0, none⟩ = some (.int .i64 l.ifs.length)) := fun X hb =>
    ⟨(hb.block _ (lt_of_block U1.out)).trans U1.out, (hb.cell (p := ⟨W.heap.size + 1, 0, none⟩) hv7).trans e7, (hb.cell (p := ⟨W.heap.size + 1 + 1 + 1, 0, none⟩) hv9).trans e9, (hb.cell (p := ⟨bw, 0, none⟩) (show bw < V.heap.size by omega)).trans eu2, (hb.cell (p := ⟨bk, 0, none⟩) (show bk < V.heap.size by omega)).trans eu3⟩
   refine round_region (fun W'' => W''.heap[bl]? = some (.cells (lawCs l a) 55 (0, 0)) ∧ W''.cell? ⟨W.heap.size + 1, 0, none⟩ = some (.slice An nn cn) ∧ W''.cell? ⟨W.heap.size + 1 + 1 + 1, 0, none⟩ = some (.int .i64 r.shift) ∧
    W''.cell? ⟨bw, 0, none⟩ = some (.slice A n c) ∧ W''.cell? ⟨bk, 0, none⟩ = some (.int .i64 l.ifs.length)) (by kernel_rfl) (by kernel_rfl) (fun _ _ h => by exact h) ⟨U1.out, e7, e9, eu2, eu3⟩ (fun hHeld => ?_)
   have hi1 : IntKind.i64.wrap ((s : Int) + r.shift) = (e : Int) := by rw [hee]; exact IntWalk.i64_in _ (by omega)
   have hi1' : IntKind.i64.wrap (e : Int) = (e : Int) := IntWalk.i64_in _ (by omega)
   have hi9 : IntKind.i64.wrap ((s : Int) + (l.ifs.length : Int)) = (s : Int) + (l.ifs.length : Int) := IntWalk.i64_in _ (by omega)
   have hi2 : (s : Int) ≤ (s : Int) + (l.ifs.length : Int) := by omega
   have hi3 : (s : Int) + (l.ifs.length : Int) ≤ (c : Int) := by omega
   have hi4 : ((s : Int) + (l.ifs.length : Int)).toNat = s + l.ifs.length := by omega
   have hi5 : (0 : Int) ≤ (s : Int) + (l.ifs.length : Int) := by omega
   have hi6 : (s : Int) + (l.ifs.length : Int) ≤ (n : Int) := by omega
   have hi7 : (0 : Int) ≤ (e : Int) := by omega
   have hi8 : (s : Int) ≤ (c : Int) := by omega
   clear h4 h4b hnx hnx'
   (refine' anyT_tk 0 rfl ?_; (try simp only [Act.put, nY, nX])); (refine' anyT_tk 1 rfl ?_; (try simp only [Act.put, nY, nX])); (refine' anyT_tk 2 rfl ?_; (try simp only [Act.put, nY, nX])); (refine' anyT_tk 3 rfl ?_; (try simp only [Act.put, nY, nX])); (refine' anyT_tk 4 rfl ?_; (try simp only [Act.put, nY, nX]))
   (refine' anyT_take (i := 5) (v := lawV l a) rfl (by kernel_rfl) (by kernel_rfl) (by kernel_rfl) (by kernel_rfl) (fun _ _ _ h => h) (yields_law (by rfl) (.tmp 2) rfl (bl) l a (by rfl) (fun w' hSw => by (try dsimp only at hSw); first | exact hSw | exact hSw.1)) (by assumption) ?_; (try simp only [Act.put, nY, nX]))
   (refine' anyT_tk 6 rfl ?_; (try simp only [Act.put, nY, nX])); (refine' anyT_tk 7 rfl ?_; (try simp only [Act.put, nY, nX])); (refine' anyT_tk 8 rfl ?_; (try simp only [Act.put, nY, nX])); (refine' anyT_tk 9 rfl ?_; (try simp only [Act.put, nY, nX])); (refine' anyT_tk 10 rfl ?_; (try simp only [Act.put, nY, nX])); (refine' anyT_tk 11 rfl ?_; (try simp only [Act.put, nY, nX])); (refine' anyT_tk 13 rfl ?_; (try simp only [Act.put, nY, nX])); (refine' anyT_tk 14 rfl ?_; (try simp only [Act.put, nY, nX])); (refine' anyT_tk 15 rfl ?_; (try simp only [Act.put, nY, nX])); (refine' anyT_tk 16 rfl ?_; (try simp only [Act.put, nY, nX])); (refine' anyT_tk 17 rfl ?_; (try simp only [Act.put, nY, nX]))
   (refine anyT_sp 12 rfl (fun K' hK' => ?_); simp only [nY]; go_simp)
   have hVd : Below V.heap.size V V.drew := (Below.refl _ V).drew
   have hnow0 := P12.out.word U6.out
   have hcut : IsWord V.drew (if c = s then A else A.map (·.add (s * 2))) l.ifs.length (c - s) ((ws.drop s).take l.ifs.length) := IsWord.take ((U6.out.below hVd rr).drop (by omega)) (by omega)
   refine (put_c l a _ _ _ _ (U5.out.below hVd rr) hcut HF.out ho).mono ?_
   rintro e2 w2 ⟨A2, n2, c2, rfl, hw2, hb2, _⟩
   have hB2 : Below V.heap.size V w2 := hVd.trans hb2
   have HB2 := hI hB2; clear hB2 hb2
   have HW2 := hI hw2; clear hw2 hcut
   refine hK' _ _ ⟨.inr (HSB.out _ HB2.out), fun _ => ?_⟩
   clear hK' K' hHeld
   (try simp only [Act.put, nY, nX])
   (refine anyT_sp 18 rfl (fun K' hK' => ?_); simp only [nY]; go_simp)
   have hB3 : Below V.heap.size V (w2.alloc (.cells #[.slice An e cn, .slice A2 n2 c2, .slice (if c = s + l.ifs.length then A else A.map (·.add ((s + l.ifs.length) * 2))) (n - (s + l.ifs.length)) (c - (s + l.ifs.length))] 28)) := HB2.out.alloc HB2.out.size _
   refine hK' _ _ ⟨.inr (HSB.out _ hB3), fun _ => ?_⟩
   clear hK' K'
   (try simp only [Act.put, nY, nX])
   (refine anyT_sp 19 rfl (fun K' hK' => ?_); simp only [nY]; go_simp)
   have hlen2 : (putM l ((ws.drop s).take l.ifs.length)).length = l.outs.length := by simp [putM]
   refine (concatSnd_c (some ⟨w2.heap.size, 0, none⟩) 3 3 [(An, e, cn, r.now.take e), (A2, n2, c2, putM l ((ws.drop s).take l.ifs.length)), (if c = s + l.ifs.length then A else A.map (·.add ((s + l.ifs.length) * 2)), n - (s + l.ifs.length), c - (s + l.ifs.length), ws.drop (s + l.ifs.length))] _ ?hc ?hp ?hb).mono ?_
   case hc => exact ⟨rfl, rr, by unfold maxLen; omega, (fun h => by cases h), fun _ => ⟨w2.heap.size, 0, rfl, by simp, fun j v hv => by rw [Nat.zero_add]; exact cell_new_at (by simpa [Part.val] using hv)⟩⟩
   case hp =>
    intro p hp
    simp only [List.mem_cons, List.not_mem_nil, or_false] at hp
    rcases hp with rfl | rfl | rfl
    ·exact IsWord.take (hnow0.below hB3 rr) (show e ≤ nn by omega)
    ·exact HW2.out.below ((Below.refl w2.heap.size w2).alloc rr _) rr
    ·exact IsWord.drop (U6.out.below hB3 rr) q2
   case hb =>
    have hwl := U6.out.len
    have hnl := hnow0.len
    simp only [catW, List.flatMap_cons, List.flatMap_nil, List.append_nil, Part.word, List.length_append, List.length_take, List.length_drop, hlen2]
    omega
   rintro e4 w4 ⟨A4, n4, c4, rfl, hw4, hb4, hfr4⟩
   have hB4 : Below V.heap.size V w4 := hB3.trans (hb4.mono (by have := HB2.out.size; simp; omega))
   have hfr : ∀ ad, A4 = some ad → V.heap.size ≤ ad.block := fun ad had => by have := hfr4 ad had; have := HB2.out.size; simp only [World.size_alloc] at *; omega
   refine hK' _ _ ⟨.inr (HSB.out _ hB4), fun _ => ?_⟩
   clear hK' K' hfr4 hb4 hB3
   have HB4 := hI hB4; clear hB4
   have p74 := (HB4.out.block _ hv7).trans P7.out
   have e74 := cell_of_one p74
   have f74 := free_of_one p74
   (try simp only [Act.put, nY, nX])
   generalize (if c = s then A else A.map (·.add (s * 2))) = A5
   generalize (if c = s + l.ifs.length then A else A.map (·.add ((s + l.ifs.length) * 2))) = A6
   (refine anyT_sp 20 rfl (fun K' hK' => ?_); simp only [nY]; go_simp)
   refine hK' _ _ ⟨.inl (by kernel_rfl), fun _ => anyT_done (by kernel_rfl) ?_ _⟩
   clear hK' K'
   clear e74 f74 hcn63 hnn63 hc63 hi0 hi1 hi1' hi2 hi3 hi4 hi5 hi6 hi7 hi8 hi9 hVd hee e7 f7 e8 f8 e9 f9 eu2 eu3 eu4
   obtain ⟨now', hnow'⟩ : ∃ now', now' = r.now.take e ++ putM l ((ws.drop s).take l.ifs.length) ++ ws.drop (s + l.ifs.length) := ⟨_, rfl⟩
   have hcat : catW [(An, e, cn, r.now.take e), (A2, n2, c2, putM l ((ws.drop s).take l.ifs.length)), (if c = s + l.ifs.length then A else A.map (·.add ((s + l.ifs.length) * 2)), n - (s + l.ifs.length), c - (s + l.ifs.length), ws.drop (s + l.ifs.length))] = now' := by
    rw [hnow', List.append_assoc]; simp [catW, Part.word]
   rw [hcat] at hw4
   have hn4 : (n4 : Int) = n + (r.shift + l.outs.length - l.ifs.length) := by
    have h := hw4.len
    have hwl := U6.out.len
    have hnl := hnow0.len
    rw [hnow'] at h
    simp only [List.length_append, List.length_take, List.length_drop, hlen2] at h
    have := HEE.out
    omega
   have hst : stepM l ws r = (some ((s : Int), now'), ⟨(s : Int) + 1, (s : Int) + max (l.ifs.length : Int) 1, r.shift + l.outs.length - l.ifs.length, now'⟩) := by
    unfold stepM; rw [HM.out, HR1.out]; simp [HQ3.out, hnx0, HEE.out, hnow']
   have HST := hI hst; clear hst hcat hnow'
   have hK5 : Keep (fun k => W.heap.size ≤ k ∧ ¬ T.all k) V (w4.setCell ⟨W.heap.size + 1, 0, none⟩ (.slice A4 n4 c4)) := (keep_of_below HB4.out).setCell (p := ⟨W.heap.size + 1, 0, none⟩) ⟨by simp, HH15.out (W.heap.size + 1) (by omega) (by omega)⟩ _
   have HJ5 := hI (HU.out.hst _ _ _ _ P5.out hK5)
   have hK5' : Keep (fun k => k = W.heap.size + 1) V (w4.setCell ⟨W.heap.size + 1, 0, none⟩ (.slice A4 n4 c4)) := (keep_of_below (S := fun k => k = W.heap.size + 1) HB4.out).setCell (p := ⟨W.heap.size + 1, 0, none⟩) rfl _
   have HK5 := hI hK5'
   have hw5 : IsWord (w4.setCell ⟨W.heap.size + 1, 0, none⟩ (.slice A4 n4 c4)) A4 n4 c4 now' := hw4.keep (S := fun k => k = W.heap.size + 1) ((Keep.refl (fun k => k = W.heap.size + 1) _).setCell (p := ⟨W.heap.size + 1, 0, none⟩) rfl _) (fun _ ad had h => by have := hfr ad had; omega)
   have HW5 := hI hw5
   have P75 := hI (one_setCell (u := .slice A4 n4 c4) p74)
   have P65 := hI ((hK5'.block _ (lt_of_block P6.out) (by omega)).trans P6.out)
   have P85 := hI ((hK5'.block _ (lt_of_block P8.out) (by omega)).trans P8.out)
   have P95 := hI ((hK5'.block _ (lt_of_block P9.out) (by omega)).trans P9.out)
   have P105 := hI ((hK5'.block _ (lt_of_block P10.out) (by omega)).trans P10.out)
   have P115 := hI ((hK5'.block _ (lt_of_block P11.out) (by omega)).trans P11.out)
   have P135 := hI ((hK5'.block _ (lt_of_block P13.out) (by omega)).trans P13.out)
   have P145 := hI ((hK5'.block D (lt_of_block P14.out) (by omega)).trans P14.out)
   have HN4 := hI hn4
   have HFR := hI hfr
   obtain ⟨fn', tmps', assign', body', hyr, hR⟩ := yield_any (m' := m - 1 - 1 - 1) (HU.out.hy r T _ _ _ _ A4 n4 c4 HFIN.out HST.out hw5 (fun ad had => by have h1 := hfr ad had; exact ⟨by omega, fun h => by have := HU.out.hlt _ _ _ P5.out _ h; omega⟩) HJ5.out)
   have HR := hI hR; clear hR
   clear hw4 hw5 hK5 hK5' hn4 hfr hnow0 hlen2 p74 hen
   generalize (w4.setCell ⟨W.heap.size + 1, 0, none⟩ (.slice A4 n4 c4)) = w5 at *
   have e65 := cell_of_one P65.out
   have e75 := cell_of_one P75.out
   gi_wp2
   refine ⟨fun _ => by omega, ?_⟩
   refine RoundIn.mono (F := Fence.wide.inRound l2) (by exact HR.out) ?_
   rintro e6 W6 (⟨rfl, hlen, T6, hJ6, hKp, hTw6, hT6⟩ | ⟨rfl, hx, hKx⟩)
   ·obtain ⟨q1, q2, q3, q4, q5, q6, q7⟩ := HU.out.hrd _ _ _ hJ6
    have e36 := cell_of_one q3
    have e46 := cell_of_one q4
    have hnTa : ∀ k, W.heap.size ≤ k → k < W1.heap.size → ¬ T.all k := HH15.out
    have hnT : ∀ k, W.heap.size ≤ k → k < W1.heap.size → ¬ T.w k := fun k h1 h2 h => hnTa k h1 h2 (.inl h)
    have hw5s := HK5.out.size
    have g66 := hI ((hKp.block _ (lt_of_block P65.out) (hnT _ (by omega) (by omega))).trans P65.out)
    have g76 := hI ((hKp.block _ (lt_of_block P75.out) (hnT _ (by omega) (by omega))).trans P75.out)
    have g86 := (hKp.block _ (lt_of_block P85.out) (hnT _ (by omega) (by omega))).trans P85.out
    have g96 := (hKp.block _ (lt_of_block P95.out) (hnT _ (by omega) (by omega))).trans P95.out
    have g106 := hI ((hKp.block _ (lt_of_block P105.out) (hnT _ (by omega) (by omega))).trans P105.out)
    have g116 := hI ((hKp.block _ (lt_of_block P115.out) (hnT _ (by omega) (by omega))).trans P115.out)
    have g136 := hI ((hKp.block _ (lt_of_block P135.out) (hnT _ (by omega) (by omega))).trans P135.out)
    have g146 := hI ((hKp.block D (lt_of_block P145.out) (hnT _ (by omega) (by omega))).trans P145.out)
    have e86 := cell_of_one g86
    have f86 := free_of_one g86
    have e96 := cell_of_one g96
    have f96 := free_of_one g96
    have G86 := hI g86; have G96 := hI g96
    have HJ6 := hI hJ6
    have HKP := hI hKp
    have HT6 := hI hT6; have HTW6 := hI hTw6
    have HNT := hI hnTa
    have HLEN := hI hlen
    have hbk6 := lt_of_block q3
    have hbm6 := lt_of_block q4
    clear q1 q2 q3 q4 q5 q6 q7 g86 g96 hJ6 hKp hT6 hTw6 hnT hnTa hlen e65 e75 hyr
    gi_wp2
    have hb1 : -100 ≤ r.shift ∧ r.shift ≤ 100 := by have := HR3.out; omega
    have hi1 : IntKind.i64.wrap (r.shift + (l.outs.length : Int)) = r.shift + (l.outs.length : Int) := IntWalk.i64_in _ (by omega)
    have hi2 : IntKind.i64.wrap (r.shift + (l.outs.length : Int) - (l.ifs.length : Int)) = r.shift + (l.outs.length : Int) - (l.ifs.length : Int) := IntWalk.i64_in _ (by omega)
    have hi3 : IntKind.i64.wrap ((s : Int) + max (l.ifs.length : Int) 1) = (s : Int) + max (l.ifs.length : Int) 1 := IntWalk.i64_in _ (by omega)
    refine round_region (fun X => X.cell? ⟨bk, 0, none⟩ = some (.int .i64 l.ifs.length) ∧ X.cell? ⟨bm, 0, none⟩ = some (.int .i64 l.outs.length) ∧ X.cell? ⟨W.heap.size + 1 + 1 + 1, 0, none⟩ = some (.int .i64 r.shift)) (by kernel_rfl) (by kernel_rfl) (fun _ _ h => by exact h) ⟨e36, e46, e96⟩ (fun hHeld => ?_)
    (refine' anyT_tk 0 rfl ?_; (try simp only [Act.put, nY, nX])); (refine' anyT_tk 1 rfl ?_; (try simp only [Act.put, nY, nX])); (refine' anyT_tk 2 rfl ?_; (try simp only [Act.put, nY, nX])); (refine' anyT_tk 3 rfl ?_; (try simp only [Act.put, nY, nX])); (refine' anyT_tk 4 rfl ?_; (try simp only [Act.put, nY, nX])); (refine' anyT_tk 5 rfl ?_; (try simp only [Act.put, nY, nX])); (refine' anyT_tk 6 rfl ?_; (try simp only [Act.put, nY, nX])); (refine' anyT_tk 7 rfl ?_; (try simp only [Act.put, nY, nX])); (refine' anyT_tk 8 rfl ?_; (try simp only [Act.put, nY, nX]))
    (refine anyT_sp 9 rfl (fun K' hK' => ?_); simp only [nY]; go_simp)
    refine hK' _ _ ⟨.inr ⟨(cell_set_block (by omega)).trans hHeld.1, (cell_set_block (by omega)).trans hHeld.2.1, (cell_set_block (by omega)).trans hHeld.2.2⟩, fun _ => ?_⟩
    clear hK' K'
    (try simp only [Act.put, nY, nX])
    (refine anyT_sp 10 rfl (fun K' hK' => ?_); simp only [nY]; go_simp)
    refine hK' _ _ ⟨.inl (by kernel_rfl), fun _ => anyT_done (by kernel_rfl) ?_ _⟩
    clear hK' K' hi1 hi2 hi3
    simp only [Exit.inBlock]
    have hT6' : ∀ k, W.heap.size ≤ k → k < W1.heap.size → ¬ T6.all k := fun k hk1 hk2 h => (HT6.out k h).elim (HNT.out k hk1 hk2) (fun h3 => h3.elim (fun h3 => by omega) (fun ⟨hn, ad, had, hb⟩ => by have := HFR.out ad had; have := lt_of_block P13.out; have := HDL.out.2; omega))
    have xK : ∀ S : Nat → Prop, S (W.heap.size + 1 + 1) → S (W.heap.size + 1 + 1 + 1) → Keep S W6 ((W6.setCell ⟨W.heap.size + 1 + 1, 0, none⟩ (.int .i64 ((s : Int) + max (l.ifs.length : Int) 1))).setCell ⟨W.heap.size + 1 + 1 + 1, 0, none⟩ (.int .i64 (r.shift + l.outs.length - l.ifs.length))) := fun S hs1 hs2 => ((Keep.refl S W6).setCell (p := ⟨W.heap.size + 1 + 1, 0, none⟩) hs1 _).setCell (p := ⟨W.heap.size + 1 + 1 + 1, 0, none⟩) hs2 _
    have xo : ∀ k, k ≠ W.heap.size + 1 + 1 → k ≠ W.heap.size + 1 + 1 + 1 → ((W6.setCell ⟨W.heap.size + 1 + 1, 0, none⟩ (.int .i64 ((s : Int) + max (l.ifs.length : Int) 1))).setCell ⟨W.heap.size + 1 + 1 + 1, 0, none⟩ (.int .i64 (r.shift + l.outs.length - l.ifs.length))).heap[k]? = W6.heap[k]? := fun k h1 h2 => (Below.heap_setCell _ _ _ _ h2).trans (Below.heap_setCell _ _ _ _ h1)
    have x8 : ((W6.setCell ⟨W.heap.size + 1 + 1, 0, none⟩ (.int .i64 ((s : Int) + max (l.ifs.length : Int) 1))).setCell ⟨W.heap.size + 1 + 1 + 1, 0, none⟩ (.int .i64 (r.shift + l.outs.length - l.ifs.length))).heap[W.heap.size + 1 + 1]? = some (.cells #[.int .i64 ((s : Int) + max (l.ifs.length : Int) 1)] 3 (0, 0)) := (Below.heap_setCell _ _ _ _ (by simp)).trans (one_setCell G86.out)
    have x9 : ((W6.setCell ⟨W.heap.size + 1 + 1, 0, none⟩ (.int .i64 ((s : Int) + max (l.ifs.length : Int) 1))).setCell ⟨W.heap.size + 1 + 1 + 1, 0, none⟩ (.int .i64 (r.shift + l.outs.length - l.ifs.length))).heap[W.heap.size + 1 + 1 + 1]? = some (.cells #[.int .i64 (r.shift + l.outs.length - l.ifs.length)] 3 (0, 0)) := one_setCell ((Below.heap_setCell _ _ _ _ (by simp)).trans G96.out)
    have xJ : J ⟨(s : Int) + 1, (s : Int) + max (l.ifs.length : Int) 1, r.shift + l.outs.length - l.ifs.length, now'⟩ T6 ((W6.setCell ⟨W.heap.size + 1 + 1, 0, none⟩ (.int .i64 ((s : Int) + max (l.ifs.length : Int) 1))).setCell ⟨W.heap.size + 1 + 1 + 1, 0, none⟩ (.int .i64 (r.shift + l.outs.length - l.ifs.length))).drew := HU.out.hst _ _ _ _ HJ6.out (xK _ ⟨by omega, hT6' _ (by omega) (by omega)⟩ ⟨by omega, hT6' _ (by omega) (by omega)⟩).drew
    have hTl := HU.out.hlt _ _ _ P5.out
    have hA4 : 0 < n4 → ∀ ad, A4 = some ad → D + 1 < ad.block ∧ ¬ T.w ad.block ∧ ad.block < w5.heap.size := by
     intro hn ad had
     obtain ⟨b, off, hb, hlt, _⟩ := HW5.out.2.2.2.2 hn
     have h1 := HFR.out ad had
     have h2 := lt_of_block P13.out
     have h3 := HDL.out.1
     rw [had] at hb
     injection hb with hb
     subst hb
     exact ⟨by omega, fun h => by have := hTl _ (.inl h); omega, hlt⟩
    have hKs := HKP.out.size
    have xw : IsWord ((W6.setCell ⟨W.heap.size + 1 + 1, 0, none⟩ (.int .i64 ((s : Int) + max (l.ifs.length : Int) 1))).setCell ⟨W.heap.size + 1 + 1 + 1, 0, none⟩ (.int .i64 (r.shift + l.outs.length - l.ifs.length))).drew A4 n4 c4 now' := (HW5.out.keep HKP.out (fun hn ad had => (hA4 hn ad had).2.1)).keep (xK (fun k => k = W.heap.size + 1 + 1 ∨ k = W.heap.size + 1 + 1 + 1) (.inl rfl) (.inr rfl)).drew (fun hn ad had h => by have := (hA4 hn ad had).1; omega)
    have xKK : Keep (fun k => T.all k ∨ (W.heap.size + 1 ≤ k ∧ k ≤ W.heap.size + 1 + 1 + 1) ∨ k = l2 ∨ (0 < nn ∧ ∃ ad, An = some ad ∧ ad.block = k)) W' ((W6.setCell ⟨W.heap.size + 1 + 1, 0, none⟩ (.int .i64 ((s : Int) + max (l.ifs.length : Int) 1))).setCell ⟨W.heap.size + 1 + 1 + 1, 0, none⟩ (.int .i64 (r.shift + l.outs.length - l.ifs.length))).drew := ((((PK.out.mono (fun k hk => .inr (.inr (.inl hk)))).trans (HK5.out.mono (fun k hk => .inr (.inl (by omega))))).trans (HKP.out.mono (fun k hk => .inl (.inl hk)))).trans (xK _ (.inr (.inl (by omega))) (.inr (.inl (by omega))))).drew
    have hsz : ((W6.setCell ⟨W.heap.size + 1 + 1, 0, none⟩ (.int .i64 ((s : Int) + max (l.ifs.length : Int) 1))).setCell ⟨W.heap.size + 1 + 1 + 1, 0, none⟩ (.int .i64 (r.shift + l.outs.length - l.ifs.length))).drew.heap.size = W6.heap.size := by simp
    refine ⟨(xo _ (by omega) (by omega)).trans g136.out, .inl ⟨rfl, ?_⟩⟩
    exact HFX.out ((W6.setCell ⟨W.heap.size + 1 + 1, 0, none⟩ (.int .i64 ((s : Int) + max (l.ifs.length : Int) 1))).setCell ⟨W.heap.size + 1 + 1 + 1, 0, none⟩ (.int .i64 (r.shift + l.outs.length - l.ifs.length))).drew ⟨(s : Int) + 1, (s : Int) + max (l.ifs.length : Int) 1, r.shift + l.outs.length - l.ifs.length, now'⟩ T6 A4 n4 c4 (by simp) (by have h := HW5.out.len; have := HLEN.out; omega) (by have := HN4.out; simp only []; omega) (by have := HEE.out; show 0 ≤ ((s : Int) + max (l.ifs.length : Int) 1) + (r.shift + l.outs.length - l.ifs.length); omega) (by show (s : Int) + max (l.ifs.length : Int) 1 ≤ 5000; omega) xJ
     ((xo _ (by omega) (by omega)).trans g66.out) ((xo _ (by omega) (by omega)).trans g76.out) x8 x9 ((xo _ (by omega) (by omega)).trans g106.out) ((xo _ (by omega) (by omega)).trans g116.out)
     (.inr ⟨xw, fun hn ad had => ⟨(hA4 hn ad had).1, fun h => (HTW6.out _ h).elim (hA4 hn ad had).2.1 (fun h2 => by have := (hA4 hn ad had).2.2; omega), by have := (hA4 hn ad had).2.2; omega⟩⟩)
     ((xo _ (by omega) (by omega)).trans g136.out) ((xo D (by omega) (by omega)).trans g146.out) xKK (fun k hk => (HT6.out k hk).elim .inl (fun h => h.elim (fun h => .inr (by omega)) (fun ⟨hn, ad, had, hb⟩ => .inr (by have := HFR.out ad had; omega)))) (fun hn ad had => .inr (by have := HFR.out ad had; omega))
   ·have g136 := hI ((hKx.block _ (lt_of_block P135.out) (fun h => HH15.out _ (by omega) (by omega) (.inl h))).trans P135.out)
    have g146 := hI ((hKx.block D (lt_of_block P145.out) (fun h => HH15.out _ (by omega) (by omega) (.inl h))).trans P145.out)
    have HX := hI hx; clear hx hKx
    gi_wp2
    refine ⟨g136.out, .inr ⟨rfl, ?_⟩⟩
    rw [HJX.out]
    refine ⟨r, T, HU.out.hsx _ _ _ _ HX.out ((Keep.refl (fun k => k = l2) W6).putObj rfl _ |>.mono (fun k hk => by subst hk; exact ⟨by omega, HH15.out _ (by omega) hlW1⟩)), World.putObj_heap_same (lt_of_block g136.out), (World.putObj_heap_other (by omega)).trans g146.out, HH15.out _ (by omega) hlW1, HH15.out _ (by omega) (by omega)⟩
 ·rintro e W' ⟨⟨v, rfl⟩, ⟨s, T', _, q2, hx⟩ | ⟨s, T', hx⟩⟩
  ·rw [HJJ.out] at hx
   obtain ⟨r, T, An, nn, cn, rfl, h1, h2, h3, h4, h4b, h5, h6, h7, h8, h9, h10, h11, h12, h13, h14, h15, h16⟩ := hx
   refine .inl ⟨h13, ?_⟩
   have hfin : finM l ws r = true := by unfold finM; rw [HM.out, h1, HWL.out]; simp; omega
   have HFIN := hI hfin; clear hfin
   have xJ := HU.out.hst _ _ _ _ h5 (((Keep.refl (fun k => k = l2) W').putObj rfl (.loop (rc .exhausted none))).mono (fun k hk => by subst hk; exact ⟨by have := hBW1.size; omega, h15 _ (by have := hBW1.size; omega) hlW1⟩))
   have xD := (World.putObj_heap_other (r := l2) (o := .loop (rc .exhausted none)) (w := W') (show D ≠ l2 by omega)).trans h14
   generalize W'.putObj l2 (.loop (rc .exhausted none)) = X at *
   have XJ := hI xJ; clear xJ h1 h3 h5 h6 h7 h8 h9 h10 h11 h12 h13 h14
   have XD := hI xD; clear xD
   gi_wp2
   have hM : Marks W.heap.size X [mark D] := ⟨D, rfl, by omega, XD.out, by simp, trivial⟩
   refine post_end (B := W.heap.size) hM fun w' hw' => ⟨_, results_none rfl _ _ _, ⟨_, rfl⟩, .inl ⟨r, HFIN.out, T, HU.out.hst _ _ _ _ XJ.out (keep_of_shut hw' (HU.out.hnd _ _ _ XJ.out))⟩⟩
  ·rw [HJX.out] at hx
   obtain ⟨r, T, hX, hL, hDD, hTl, hTD⟩ := hx
   refine .inr ⟨.ret, hL, ?_⟩
   have xJ := HU.out.hsx _ _ _ _ hX (((Keep.refl (fun k => k = l2) W').putObj rfl (.loop (rc .exhausted (some .ret)))).mono (fun k hk => by subst hk; exact ⟨by have := hBW1.size; omega, hTl⟩))
   have xD := (World.putObj_heap_other (r := l2) (o := .loop (rc .exhausted (some .ret))) (w := W') (show D ≠ l2 by omega)).trans hDD
   generalize W'.putObj l2 (.loop (rc .exhausted (some .ret))) = X at *
   have XJ := hI xJ; clear xJ hX hL hDD
   have XD := hI xD; clear xD
   gi_wp2
   have hM : Marks W.heap.size X [mark D] := ⟨D, rfl, by omega, XD.out, by simp, trivial⟩
   refine post_ret (B := W.heap.size) hM fun w' hw' => ⟨_, results_none rfl _ _ _, ⟨_, rfl⟩, .inr ⟨r, T, HU.out.hsx _ _ _ _ XJ.out (keep_of_shut hw' (HU.out.hnx _ _ _ XJ.out))⟩⟩
end Go.Proofs.YtaglfmlgbcmakaaGreatDoor
namespace Go.Proofs.YtaglfmlgbcmakaaGreatDoor
open Go.RowKit Go.Shelf
theorem law_ok {l : LawD} (h : lawE l = 0) : l.ifs.length ≤ 4 ∧ l.outs.length ≤ 6 ∧ (l.mode = 1 ∨ l.mode = 2 ∨ l.mode = 3) ∧ ∀ x ∈ l.outs, fitsM x l.ifs.length = true := by
 have hb : badLaw l = false := by
  unfold lawE at h
  cases hb : badLaw l
  ·rfl
  ·rw [hb, if_pos rfl] at h; exact absurd h (by decide)
 unfold badLaw at hb
 simp only [Bool.or_eq_false_iff, decide_eq_false_iff_not] at hb
 obtain ⟨⟨⟨⟨⟨⟨⟨⟨⟨_, _⟩, _⟩, h1⟩, h2⟩, _⟩, h3⟩, h4⟩, _⟩, h5⟩ := hb
 refine ⟨by omega, by omega, by omega, fun x hx => ?_⟩
 have := List.any_eq_false.1 h5 x hx
 simpa using this
theorem run1_c (m lr bw bl bk bm : Nat) (hm : 3 ≤ m) (l : LawD) (a : LawA) (A : Option Addr) (n c : Nat) (ws : List Snd) (W : World) (J Jx : RS → TU → World → Prop) (T0 : TU)
  (H : RunUse lr bw bl bk bm l a A n c ws W.heap.size J Jx) (h0 : J (startM l ws) T0 W) (hv : lawE l = 0) (hn : n ≤ 32) :
  CallsIn Fence.wide m Tryz.prog 204 #[.func (.yield lr) #[] #[], .pointer (some ⟨bw, 0, none⟩), .pointer (some ⟨bl, 0, none⟩), .pointer (some ⟨bk, 0, none⟩), .pointer (some ⟨bm, 0, none⟩)] W fun e W' =>
   (∃ v, e = .returned v) ∧ ((∃ r T, finM l ws r = true ∧ J r T W') ∨ ∃ r T, Jx r T W') := by
 obtain ⟨h1, h2, h3, h4⟩ := law_ok hv
 rcases h3 with h3 | h3 | h3
 ·exact run1_all m lr bw bl bk bm hm l a A n c ws W J Jx T0 H h0 h3 hn h4 (by omega) (by omega)
 ·exact run1_right m lr bw bl bk bm (by omega) l a A n c ws W J Jx T0 H h0 h3 hn h4 (by omega) (by omega)
 ·exact run1_left m lr bw bl bk bm (by omega) l a A n c ws W J Jx T0 H h0 h3 hn h4 (by omega) (by omega)
def runM (l : LawD) (ws : List Snd) : Nat → RS → List (Int × List Snd) × Bool
 | 0, _ => ([], false)
 | f + 1, r =>
  if finM l ws r then ([], false)
  else match stepM l ws r with
   | (none, r') => runM l ws f r'
   | (some (p, now), r') => if 32 < now.length then ([], true) else ((p, now) :: (runM l ws f r').1, (runM l ws f r').2)
def traceM (l : LawD) (ws : List Snd) : Int × List (Int × List Snd) :=
 if lcheckE l ws ≠ 0 then (lcheckE l ws, []) else if (runM l ws 80 (startM l ws)).2 then (11, []) else (0, (runM l ws 80 (startM l ws)).1)
def applyM (l : LawD) (ws : List Snd) : Int × List Snd :=
 if (traceM l ws).1 ≠ 0 then ((traceM l ws).1, []) else (0, match (traceM l ws).2.getLast? with | some x => x.2 | none => ws)
def leftM (l : LawD) (ws : List Snd) (r : RS) : Nat :=
 if l.mode = 1 then (ws.length + 1 - r.at_).toNat else if l.mode = 2 then (r.now.length + 1 - r.at_).toNat else (r.at_ + 1).toNat
theorem putM_len (l : LawD) (cut : List Snd) : (putM l cut).length = l.outs.length := by simp [putM]
theorem hit_fits {l : LawD} {ws : List Snd} {at_ : Nat} (h : hitM l ws at_ = true) : at_ + l.ifs.length ≤ ws.length := by
 unfold hitM at h
 simp only [Bool.and_eq_true, decide_eq_true_eq] at h
 exact h.1.1
theorem replaceM_len {l : LawD} {ws : List Snd} {at_ : Nat} (h : hitM l ws at_ = true) : (replaceM l ws at_).length + l.ifs.length = ws.length + l.outs.length := by
 have := hit_fits h
 simp only [replaceM, List.length_append, List.length_take, List.length_drop, putM_len]
 omega
def RS.ok (r : RS) (l : LawD) : Prop := l.mode = 3 ∨ 0 ≤ r.at_
theorem step_left {l : LawD} {ws : List Snd} {r : RS} (hm : l.mode = 1 ∨ l.mode = 2 ∨ l.mode = 3) (hok : r.ok l) (hf : finM l ws r = false) : (stepM l ws r).2.ok l ∧ leftM l ws (stepM l ws r).2 < leftM l ws r := by
 rcases hm with h | h | h
 ·have h2 : l.mode ≠ 2 := by rw [h]; decide
  have h3 : l.mode ≠ 3 := by rw [h]; decide
  have hok' : 0 ≤ r.at_ := hok.resolve_left h3
  unfold finM at hf
  rw [if_pos h] at hf
  have hf' := of_decide_eq_false hf
  have e : (stepM l ws r).2.at_ = r.at_ + 1 := by unfold stepM; rw [if_pos h]; split <;> rfl
  unfold RS.ok leftM
  rw [if_pos h, if_pos h, e]
  exact ⟨.inr (by omega), by omega⟩
 ·have h1 : l.mode ≠ 1 := by rw [h]; decide
  have h3 : l.mode ≠ 3 := by rw [h]; decide
  have hok' : 0 ≤ r.at_ := hok.resolve_left h3
  unfold finM at hf
  rw [if_neg h1, if_pos h] at hf
  have hf' := of_decide_eq_false hf
  unfold stepM
  rw [if_neg h1, if_pos h]
  by_cases hh : hitM l r.now r.at_.toNat = true
  ·rw [if_pos hh]
   have hl := replaceM_len hh
   unfold RS.ok leftM
   rw [if_neg h1, if_neg h1, if_pos h, if_pos h]
   dsimp only
   refine ⟨.inr (by split <;> omega), ?_⟩
   split <;> omega
  ·rw [if_neg hh]
   unfold RS.ok leftM
   rw [if_neg h1, if_neg h1, if_pos h, if_pos h]
   dsimp only
   exact ⟨.inr (by omega), by omega⟩
 ·have h1 : l.mode ≠ 1 := by rw [h]; decide
  have h2 : l.mode ≠ 2 := by rw [h]; decide
  unfold finM at hf
  rw [if_neg h1, if_neg h2, if_pos h] at hf
  have hf' := of_decide_eq_false hf
  unfold stepM
  rw [if_neg h1, if_neg h2]
  unfold RS.ok leftM
  rw [if_neg h1, if_neg h1, if_neg h2, if_neg h2]
  refine ⟨.inl h, ?_⟩
  split <;> dsimp only <;> omega
theorem start_left (l : LawD) (ws : List Snd) (hw : ws.length ≤ 32) : (startM l ws).ok l ∧ leftM l ws (startM l ws) ≤ 80 := by
 unfold startM RS.ok leftM
 by_cases h3 : l.mode = 3
 ·have h1 : l.mode ≠ 1 := by rw [h3]; decide
  have h2 : l.mode ≠ 2 := by rw [h3]; decide
  rw [if_pos h3, if_neg h1, if_neg h2]
  dsimp only
  exact ⟨.inl h3, by omega⟩
 ·rw [if_neg h3]
  dsimp only
  refine ⟨.inr (by omega), ?_⟩
  split
  ·omega
  ·split <;> omega
def SoFar (l : LawD) (ws : List Snd) (r : RS) (done : List (Int × List Snd)) : Prop :=
 r.ok l ∧ ∃ f, leftM l ws r ≤ f ∧ runM l ws 80 (startM l ws) = (done ++ (runM l ws f r).1, (runM l ws f r).2)
theorem SoFar.start (l : LawD) (ws : List Snd) (hw : ws.length ≤ 32) : SoFar l ws (startM l ws) [] := ⟨(start_left l ws hw).1, 80, (start_left l ws hw).2, by simp⟩
theorem SoFar.fin {l : LawD} {ws : List Snd} {r : RS} {done : List (Int × List Snd)} (h : SoFar l ws r done) (hf : finM l ws r = true) : runM l ws 80 (startM l ws) = (done, false) := by
 obtain ⟨_, f, _, h⟩ := h
 have : runM l ws f r = ([], false) := by cases f with
  | zero => rfl
  | succ f => unfold runM; rw [if_pos hf]
 rw [h, this]; simp
theorem left_pos {l : LawD} {ws : List Snd} {r : RS} (hm : l.mode = 1 ∨ l.mode = 2 ∨ l.mode = 3) (hok : r.ok l) (hf : finM l ws r = false) : 0 < leftM l ws r := by
 have := (step_left hm hok hf).2; omega
theorem SoFar.skip {l : LawD} {ws : List Snd} {r r' : RS} {done : List (Int × List Snd)} (hm : l.mode = 1 ∨ l.mode = 2 ∨ l.mode = 3) (h : SoFar l ws r done) (hf : finM l ws r = false) (hs : stepM l ws r = (none, r')) : SoFar l ws r' done := by
 obtain ⟨hok, f, hle, h⟩ := h
 have h1 := left_pos hm hok hf
 have h2 := step_left hm hok hf
 rw [hs] at h2
 cases f with
 | zero => omega
 | succ f =>
  refine ⟨h2.1, f, by have := h2.2; dsimp only at this; omega, ?_⟩
  rw [h]
  have : runM l ws (f + 1) r = runM l ws f r' := by rw [runM, if_neg (by rw [hf]; decide), hs]
  rw [this]
theorem SoFar.step {l : LawD} {ws : List Snd} {r r' : RS} {done : List (Int × List Snd)} {p : Int} {now : List Snd} (hm : l.mode = 1 ∨ l.mode = 2 ∨ l.mode = 3) (h : SoFar l ws r done) (hf : finM l ws r = false)
  (hs : stepM l ws r = (some (p, now), r')) (hn : now.length ≤ 32) : SoFar l ws r' (done ++ [(p, now)]) := by
 obtain ⟨hok, f, hle, h⟩ := h
 have h1 := left_pos hm hok hf
 have h2 := step_left hm hok hf
 rw [hs] at h2
 cases f with
 | zero => omega
 | succ f =>
  refine ⟨h2.1, f, by have := h2.2; dsimp only at this; omega, ?_⟩
  rw [h]
  have : runM l ws (f + 1) r = ((p, now) :: (runM l ws f r').1, (runM l ws f r').2) := by rw [runM, if_neg (by rw [hf]; decide), hs]; dsimp only; rw [if_neg (by omega)]
  rw [this]; simp
theorem SoFar.long {l : LawD} {ws : List Snd} {r r' : RS} {done : List (Int × List Snd)} {p : Int} {now : List Snd} (hm : l.mode = 1 ∨ l.mode = 2 ∨ l.mode = 3) (h : SoFar l ws r done) (hf : finM l ws r = false)
  (hs : stepM l ws r = (some (p, now), r')) (hn : 32 < now.length) : (runM l ws 80 (startM l ws)).2 = true := by
 obtain ⟨hok, f, hle, h⟩ := h
 have h1 := left_pos hm hok hf
 cases f with
 | zero => omega
 | succ f =>
  rw [h]
  have : runM l ws (f + 1) r = ([], true) := by rw [runM, if_neg (by rw [hf]; decide), hs]; dsimp only; rw [if_pos hn]
  rw [this]
theorem runM_len (l : LawD) (ws : List Snd) : ∀ (f : Nat) (r : RS), (runM l ws f r).1.length ≤ f
 | 0, _ => rr
 | f + 1, r => by
  rw [runM]
  split
  ·simp
  ·split
   ·exact Nat.le_trans (runM_len l ws f _) (by omega)
   ·split
    ·simp
    ·have := runM_len l ws f (by assumption); simp; exact runM_len l ws f _
end Go.Proofs.YtaglfmlgbcmakaaGreatDoor
namespace Go.Proofs.YtaglfmlgbcmakaaGreatDoor
open Go.RowKit Go.Shelf
attribute [local go_sem] Oper.semAt_some
theorem results_cells3 {fn : Func} {p q r : Tmp} (h : fn.results = #[.cell p 36, .cell q 34, .cell r 30]) (tmps : Array Value) (w : World) (b1 b2 b3 : Nat) (A1 A2 : Option Addr) (n1 c1 n2 c2 : Nat) (x : Int)
  (hp : tmps.getD p undef = .pointer (some ⟨b1, 0, none⟩)) (hq : tmps.getD q undef = .pointer (some ⟨b2, 0, none⟩)) (hr : tmps.getD r undef = .pointer (some ⟨b3, 0, none⟩))
  (h1 : w.cell? ⟨b1, 0, none⟩ = some (.slice A1 n1 c1)) (h2 : w.cell? ⟨b2, 0, none⟩ = some (.slice A2 n2 c2)) (h3 : w.cell? ⟨b3, 0, none⟩ = some (.int .i64 x)) :
  (results fn tmps).run Tryz.prog w = .ok (.tuple #[.slice A1 n1 c1, .slice A2 n2 c2, .int .i64 x]) w := by
 have hp' : tmps[p]?.getD undef = .pointer (some ⟨b1, 0, none⟩) := by simpa using hp
 have hq' : tmps[q]?.getD undef = .pointer (some ⟨b2, 0, none⟩) := by simpa using hq
 have hr' : tmps[r]?.getD undef = .pointer (some ⟨b3, 0, none⟩) := by simpa using hr
 simp [results, h, hp', hq', hr', asAddr, loadVar, go_sem, h1, h2, h3]
theorem own_heap {w w' : World} {base : Nat} {e : TypeId} {sz n : Nat} {v : Value} {xs : List Value} (h : w.ownsRow base e sz v n xs) (hb : ∀ k, v.ownBlock = some k → w'.heap[k]? = w.heap[k]?) : w'.ownsRow base e sz v n xs := by
 refine ⟨h.1, ?_⟩
 rcases h.2 with hn | ⟨g, cap, cur, rfl, h1, hg, rest⟩
 ·exact Or.inl hn
 ·exact Or.inr ⟨g, cap, cur, rfl, h1, (hb g rfl).trans hg, rest⟩
structure TR (B b8 b9 : Nat) (V : World) (v8 v9 vp vw : Value) (np nw : Nat) (xs ys : List Value) (X : World) : Prop where
 c8 : X.heap[b8]? = some (.cells #[v8] 36 (0, 0))
 c9 : X.heap[b9]? = some (.cells #[v9] 34 (0, 0))
 o8 : X.ownsRow B 3 1 vp np xs
 o9 : X.ownsRow B 28 1 vw nw ys
 ne : ∀ k, vp.ownBlock = some k → vw.ownBlock ≠ some k
 kp : Keep (fun k => v8.ownBlock = some k ∨ v9.ownBlock = some k) V X
 n8 : ∀ k, vp.ownBlock = some k → v8.ownBlock = some k ∨ V.heap.size ≤ k
 n9 : ∀ k, vw.ownBlock = some k → v9.ownBlock = some k ∨ V.heap.size ≤ k
section tr
variable {B b8 b9 : Nat} {V : World} {v8 v9 vp vw : Value} {np nw : Nat} {xs ys : List Value} {X : World}
theorem TR.alloc (h : TR B b8 b9 V v8 v9 vp vw np nw xs ys X) (o : Obj) : TR B b8 b9 V v8 v9 vp vw np nw xs ys (X.alloc o) :=
 ⟨(heap_old_at (lt_of_block h.c8)).trans h.c8, (heap_old_at (lt_of_block h.c9)).trans h.c9, h.o8.alloc _, h.o9.alloc _, h.ne, h.kp.alloc _, h.n8, h.n9⟩
theorem TR.drew (h : TR B b8 b9 V v8 v9 vp vw np nw xs ys X) : TR B b8 b9 V v8 v9 vp vw np nw xs ys X.drew :=
 ⟨h.c8, h.c9, own_heap h.o8 (fun _ _ => rfl), own_heap h.o9 (fun _ _ => rfl), h.ne, h.kp.drew, h.n8, h.n9⟩
theorem TR.push8 (h : TR B b8 b9 V v8 v9 vp vw np nw xs ys X) {X' : World} {vp' : Value} {n' : Nat} {xs' : List Value} (hb8 : b8 < B) (hb9 : b9 < B) (ho : X'.ownsRow B 3 1 vp' n' xs') (hg : X.grownBy X' vp.ownBlock)
  (hat : vp'.ownBlock = vp.ownBlock ∨ vp'.ownBlock = some X.heap.size) : TR B b8 b9 V v8 v9 vp' vw n' nw xs' ys X' := by
 have hlow : ∀ k, some k = vp.ownBlock → B ≤ k := fun k hk => (h.o8.lt k hk.symm).1
 refine ⟨(hg.block _ (lt_of_block h.c8) (fun e => by have := hlow _ e; omega)).trans h.c8, (hg.block _ (lt_of_block h.c9) (fun e => by have := hlow _ e; omega)).trans h.c9, ho,
  own_heap h.o9 (fun k hk => hg.block k (h.o9.lt k hk).2 (fun e => h.ne k e.symm hk)), ?_, h.kp.grown hg (fun k hk => ?_), ?_, h.n9⟩
 ·intro k hk hk2
  rcases hat with e | e
  ·exact h.ne k (e ▸ hk) hk2
  ·rw [e] at hk
   injection hk with hk
   have := (h.o9.lt k hk2).2
   omega
 ·rcases h.n8 k hk with e | e
  ·exact .inl (.inl e)
  ·exact .inr e
 ·intro k hk
  rcases hat with e | e
  ·exact h.n8 k (e ▸ hk)
  ·rw [e] at hk
   injection hk with hk
   have := h.kp.size
   exact .inr (by omega)
theorem TR.push9 (h : TR B b8 b9 V v8 v9 vp vw np nw xs ys X) {X' : World} {vw' : Value} {n' : Nat} {ys' : List Value} (hb8 : b8 < B) (hb9 : b9 < B) (ho : X'.ownsRow B 28 1 vw' n' ys') (hg : X.grownBy X' vw.ownBlock)
  (hat : vw'.ownBlock = vw.ownBlock ∨ vw'.ownBlock = some X.heap.size) : TR B b8 b9 V v8 v9 vp vw' np n' xs ys' X' := by
 have hlow : ∀ k, some k = vw.ownBlock → B ≤ k := fun k hk => (h.o9.lt k hk.symm).1
 refine ⟨(hg.block _ (lt_of_block h.c8) (fun e => by have := hlow _ e; omega)).trans h.c8, (hg.block _ (lt_of_block h.c9) (fun e => by have := hlow _ e; omega)).trans h.c9,
  own_heap h.o8 (fun k hk => hg.block k (h.o8.lt k hk).2 (fun e => h.ne k hk e.symm)), ho, ?_, h.kp.grown hg (fun k hk => ?_), h.n8, ?_⟩
 ·intro k hk hk2
  rcases hat with e | e
  ·exact h.ne k hk (e ▸ hk2)
  ·rw [e] at hk2
   injection hk2 with hk2
   have := (h.o8.lt k hk).2
   omega
 ·rcases h.n9 k hk with e | e
  ·exact .inl (.inr e)
  ·exact .inr e
 ·intro k hk
  rcases hat with e | e
  ·exact h.n9 k (e ▸ hk)
  ·rw [e] at hk
   injection hk with hk
   have := h.kp.size
   exact .inr (by omega)
end tr
theorem words_info : (Tryz.prog.info? 28).map (fun i => (i.zero, i.size, i.bytes)) = some (some (.slice none 0 0), 1, 24) := by kernel_rfl
theorem anyU_two {P : Program} {ops : Array Oper} {Q : Exit → Act → World → Prop} {md : Region.Mode} {S : World → Prop} {i j m : Nat} {oi oj : Oper} {fuel : Nat} {listed : Array Bool} {a : Act} {w : World} (hr : Region.ready md ops listed = [i, j]) (hi : ops[i]? = some oi) (hj : ops[j]? = some oj)
  (h1 : ∀ K' : Act → World → Prop, (∀ a w, (upTo m (listed.setIfInBounds i true) = true ∨ S w) ∧ ((upTo m (listed.setIfInBounds i true) = true ∨ S w) → anyU P md ops Q S m fuel (listed.setIfInBounds i true) a w) → K' a w) →
   if Region.wanted oi (yielded ops a.tmps) = true then Oper.wp P oi a w K' Q else K' (a.put oi.dst undef) w)
  (h2 : ∀ K' : Act → World → Prop, (∀ a w, (upTo m (listed.setIfInBounds j true) = true ∨ S w) ∧ ((upTo m (listed.setIfInBounds j true) = true ∨ S w) → anyU P md ops Q S m fuel (listed.setIfInBounds j true) a w) → K' a w) →
   if Region.wanted oj (yielded ops a.tmps) = true then Oper.wp P oj a w K' Q else K' (a.put oj.dst undef) w) : anyU P md ops Q S m (fuel + 1) listed a w := by
 refine ⟨fun h0 => (by rw [hr] at h0; cases h0), fun k hk => ?_⟩
 rw [hr] at hk
 have hk : k = i ∨ k = j := by simpa using hk
 rcases hk with rfl | rfl
 ·have h3 := h1 _ (fun a w h => (⟨h.1, h.2 h.1⟩ : (upTo m (listed.setIfInBounds k true) = true ∨ S w) ∧ anyU P md ops Q S m fuel (listed.setIfInBounds k true) a w))
  unfold wpOp
  rw [hi]
  simp only
  split
  ·rename_i hw; rw [if_pos hw] at h3; exact .inl h3
  ·rename_i hw; rw [if_neg hw] at h3; exact h3
 ·have h3 := h2 _ (fun a w h => (⟨h.1, h.2 h.1⟩ : (upTo m (listed.setIfInBounds k true) = true ∨ S w) ∧ anyU P md ops Q S m fuel (listed.setIfInBounds k true) a w))
  unfold wpOp
  rw [hj]
  simp only
  split
  ·rename_i hw; rw [if_pos hw] at h3; exact .inl h3
  ·rename_i hw; rw [if_neg hw] at h3; exact h3
def IsWords (w : World) (A : Option Addr) (n c : Nat) (xss : List (List Snd)) : Prop :=
 ∃ ps : List Part, ps.map Part.word = xss ∧ Cells w A n c 1 (ps.map Part.val) ∧ Parts w ps
def placesC (d : List (Int × List Snd)) : List Value := d.map fun x => .int .i64 x.1
theorem placesC_snoc (d : List (Int × List Snd)) (x : Int × List Snd) : placesC (d ++ [x]) = placesC d ++ [.int .i64 x.1] := by simp [placesC]
structure TS (B b4 b5 b6 b8 b9 lr : Nat) (rc : LoopState → Option Code → Loop) (W1 : World) (vp vw : Value) (done : List (Int × List Snd)) (ps : List Part) (T : TU) (st : LoopState) (W : World) : Prop where
 tw : T.w = fun k => k = b4 ∨ k = b5 ∨ k = b6 ∨ k = b8 ∨ k = b9 ∨ k = lr ∨ vp.ownBlock = some k ∨ vw.ownBlock = some k
 tu : T.u = fun k => ∃ p ∈ ps, 0 < p.2.1 ∧ ∃ ad, p.1 = some ad ∧ ad.block = k
 lt : b4 < B ∧ b5 < B ∧ b6 < B ∧ b8 < B ∧ b9 < B ∧ lr < B
 ds : b4 ≠ b5 ∧ b4 ≠ b6 ∧ b5 ≠ b6 ∧ b8 ≠ b9 ∧ b4 ≠ b8 ∧ b4 ≠ b9 ∧ b5 ≠ b8 ∧ b5 ≠ b9 ∧ b6 ≠ b8 ∧ b6 ≠ b9 ∧ lr ≠ b4 ∧ lr ≠ b5 ∧ lr ≠ b6 ∧ lr ≠ b8 ∧ lr ≠ b9
 c4 : W.heap[b4]? = some (.cells #[.slice none 0 0] 36 (0, 0))
 c5 : W.heap[b5]? = some (.cells #[.slice none 0 0] 34 (0, 0))
 c6 : W.heap[b6]? = some (.cells #[.int .i64 0] 30 (0, 0))
 c8 : W.heap[b8]? = some (.cells #[vp] 36 (0, 0))
 c9 : W.heap[b9]? = some (.cells #[vw] 34 (0, 0))
 o8 : W.ownsRow B 3 1 vp done.length (placesC done)
 o9 : W.ownsRow B 28 1 vw done.length (ps.map Part.val)
 ne : ∀ k, vp.ownBlock = some k → vw.ownBlock ≠ some k
 pw : ps.map Part.word = done.map (·.2)
 pp : Parts W ps
 pd : ∀ p ∈ ps, ∀ ad, p.1 = some ad → B ≤ ad.block ∧ (0 < p.2.1 → ¬ T.w ad.block)
 kp : Keep (fun k => k = b4 ∨ k = b5 ∨ k = b6 ∨ k = b8 ∨ k = b9 ∨ k = lr) W1 W
 bb : W1.heap.size = B
 lp : W.heap[lr]? = some (.loop (rc st none))
section ts
variable {B b4 b5 b6 b8 b9 lr : Nat} {rc : LoopState → Option Code → Loop} {W1 : World} {vp vw : Value} {done : List (Int × List Snd)} {ps : List Part} {T : TU} {st : LoopState} {W W' : World}
theorem TS.lts (h : TS B b4 b5 b6 b8 b9 lr rc W1 vp vw done ps T st W) : ∀ k, T.all k → k < W.heap.size := by
 intro k hk
 rcases hk with hk | hk
 ·rw [h.tw] at hk
  rcases hk with rfl | rfl | rfl | rfl | rfl | rfl | hk | hk
  ·exact lt_of_block h.c4
  ·exact lt_of_block h.c5
  ·exact lt_of_block h.c6
  ·exact lt_of_block h.c8
  ·exact lt_of_block h.c9
  ·exact lt_of_block h.lp
  ·exact (h.o8.lt k hk).2
  ·exact (h.o9.lt k hk).2
 ·rw [h.tu] at hk
  obtain ⟨p, hp, hn, ad, had, rfl⟩ := hk
  obtain ⟨b, off, hb, hlt, _⟩ := (h.pp p hp).2.2.2.2 hn
  rw [had] at hb
  injection hb with hb
  rw [hb]; exact hlt
theorem own_cells {w : World} {base : Nat} {e : TypeId} {sz n : Nat} {v : Value} {xs : List Value} (h : w.ownsRow base e sz v n xs) {k : Nat} (hk : v.ownBlock = some k) : ∃ cur : Array Value, w.heap[k]? = some (.cells cur e (0, 0)) := by
 rcases h.2 with ⟨rfl, _⟩ | ⟨g, cap, cur, rfl, _, hg, _⟩
 ·cases hk
 ·injection hk with hk; subst hk; exact ⟨cur, hg⟩
theorem word_block {w : World} {A : Option Addr} {n c : Nat} {xs : List Snd} (h : IsWord w A n c xs) (hn : 0 < n) {ad : Addr} (had : A = some ad) : ∃ v, w.cell? ⟨ad.block, ad.off, none⟩ = some v := by
 obtain ⟨b, off, p, m, hA, _, _, hc, _⟩ := h.at_ hn
 rw [had] at hA
 injection hA with hA
 subst hA
 simp only [Nat.zero_mul, Nat.add_zero] at hc
 exact ⟨_, hc⟩
theorem TS.nds (h : TS B b4 b5 b6 b8 b9 lr rc W1 vp vw done ps T st W) : ∀ k, T.all k → ∀ x, W.heap[k]? ≠ some (.deferred x) := by
 intro k hk x hx
 rcases hk with hk | hk
 ·rw [h.tw] at hk
  rcases hk with rfl | rfl | rfl | rfl | rfl | rfl | hk | hk
  ·rw [h.c4] at hx; cases hx
  ·rw [h.c5] at hx; cases hx
  ·rw [h.c6] at hx; cases hx
  ·rw [h.c8] at hx; cases hx
  ·rw [h.c9] at hx; cases hx
  ·rw [h.lp] at hx; cases hx
  ·obtain ⟨cur, hc⟩ := own_cells h.o8 hk; rw [hc] at hx; cases hx
  ·obtain ⟨cur, hc⟩ := own_cells h.o9 hk; rw [hc] at hx; cases hx
 ·rw [h.tu] at hk
  obtain ⟨p, hp, hn, ad, had, rfl⟩ := hk
  obtain ⟨v, hv⟩ := word_block (h.pp p hp) hn had
  simp [World.cell?, hx] at hv
theorem TS.keep (h : TS B b4 b5 b6 b8 b9 lr rc W1 vp vw done ps T st W) (hk : Keep (fun k => B ≤ k ∧ ¬ T.all k) W W') : TS B b4 b5 b6 b8 b9 lr rc W1 vp vw done ps T st W' := by
 obtain ⟨l4, l5, l6, l8, l9, ll⟩ := h.lt
 have hin : ∀ k, T.all k → W'.heap[k]? = W.heap[k]? := fun k hT => hk.block k (h.lts k hT) (fun hn => hn.2 hT)
 have hw : ∀ k, T.w k → W'.heap[k]? = W.heap[k]? := fun k hT => hin k (.inl hT)
 have htw := h.tw
 refine ⟨h.tw, h.tu, h.lt, h.ds, ?_, ?_, ?_, ?_, ?_, own_heap h.o8 fun k e => ?_, own_heap h.o9 fun k e => ?_, h.ne, h.pw, fun p hp => (h.pp p hp).keep (S := fun k => B ≤ k ∧ ¬ T.all k) hk fun hn ad had hS => hS.2 (.inr ?_), h.pd, ?_, h.bb, ?_⟩
 ·exact (hw _ (by rw [htw]; simp)).trans h.c4
 ·exact (hw _ (by rw [htw]; simp)).trans h.c5
 ·exact (hw _ (by rw [htw]; simp)).trans h.c6
 ·exact (hw _ (by rw [htw]; simp)).trans h.c8
 ·exact (hw _ (by rw [htw]; simp)).trans h.c9
 ·exact hw _ (by rw [htw]; simp [e])
 ·exact hw _ (by rw [htw]; simp [e])
 ·rw [h.tu]; exact ⟨p, hp, hn, ad, had, rfl⟩
 ·exact ((h.kp.mono (S' := fun k => (k = b4 ∨ k = b5 ∨ k = b6 ∨ k = b8 ∨ k = b9 ∨ k = lr) ∨ (B ≤ k ∧ ¬ T.all k)) (fun _ e => .inl e)).trans (hk.mono fun _ e => .inr e)).old fun k hlt e => e.resolve_right fun e => by have := h.bb; omega
 ·exact (hw _ (by rw [htw]; simp)).trans h.lp
theorem TS.put (h : TS B b4 b5 b6 b8 b9 lr rc W1 vp vw done ps T st W) (st' : LoopState) : TS B b4 b5 b6 b8 b9 lr rc W1 vp vw done ps T st' (W.putObj lr (.loop (rc st' none))) := by
 obtain ⟨l4, l5, l6, l8, l9, ll⟩ := h.lt
 obtain ⟨_, _, _, _, _, _, _, _, _, _, d4, d5, d6, d8, d9⟩ := h.ds
 have ho : ∀ k, k ≠ lr → (W.putObj lr (.loop (rc st' none))).heap[k]? = W.heap[k]? := fun k hk => World.putObj_heap_other hk
 refine ⟨h.tw, h.tu, h.lt, h.ds, (ho _ d4.symm).trans h.c4, (ho _ d5.symm).trans h.c5, (ho _ d6.symm).trans h.c6, (ho _ d8.symm).trans h.c8, (ho _ d9.symm).trans h.c9, own_heap h.o8 fun k e => ho _ ?_, own_heap h.o9 fun k e => ho _ ?_, h.ne, h.pw,
  fun p hp => (h.pp p hp).keep (S := fun k => k = lr) ((Keep.refl (fun k => k = lr) W).putObj rfl _) fun hn ad had e => (h.pd p hp ad had).2 hn (by rw [h.tw]; simp [e]), h.pd, h.kp.putObj (by simp) _, h.bb, World.putObj_heap_same (lt_of_block h.lp)⟩
 ·have := (h.o8.lt k e).1; omega
 ·have := (h.o9.lt k e).1; omega
theorem TS.tr (h : TS B b4 b5 b6 b8 b9 lr rc W1 vp vw done ps T st W) : TR B b8 b9 W vp vw vp vw done.length done.length (placesC done) (ps.map Part.val) W :=
 ⟨h.c8, h.c9, h.o8, h.o9, h.ne, Keep.refl _ _, fun _ h => .inl h, fun _ h => .inl h⟩
theorem TS.push (h : TS B b4 b5 b6 b8 b9 lr rc W1 vp vw done ps T st W) {p : Int} {now : List Snd} {A' : Option Addr} {n' c' : Nat} {vp' vw' : Value} {X : World} (hwd : IsWord W A' n' c' now) (hfr : ∀ ad, A' = some ad → B ≤ ad.block ∧ ¬ T.all ad.block)
  (ht : TR B b8 b9 W vp vw vp' vw' (done.length + 1) (done.length + 1) (placesC done ++ [.int .i64 p]) (ps.map Part.val ++ [.slice A' n' c']) X) :
  ∃ T', TS B b4 b5 b6 b8 b9 lr rc W1 vp' vw' (done ++ [(p, now)]) (ps ++ [(A', n', c', now)]) T' st ((X.setCell ⟨b8, 0, none⟩ vp').setCell ⟨b9, 0, none⟩ vw') ∧ Keep T.w W ((X.setCell ⟨b8, 0, none⟩ vp').setCell ⟨b9, 0, none⟩ vw') ∧
   (∀ k, T'.w k → T.w k ∨ W.heap.size ≤ k) ∧ ∀ k, T'.all k → T.all k ∨ W.heap.size ≤ k ∨ (0 < n' ∧ ∃ ad, A' = some ad ∧ ad.block = k) := by
 obtain ⟨l4, l5, l6, l8, l9, ll⟩ := h.lt
 obtain ⟨e45, e46, e56, e89, e48, e49, e58, e59, e68, e69, d4, d5, d6, d8, d9⟩ := h.ds
 have hWs := h.kp.size
 have hbb := h.bb
 have htw := h.tw
 -- what is not written
 have hK : Keep T.w W ((X.setCell ⟨b8, 0, none⟩ vp').setCell ⟨b9, 0, none⟩ vw') := ((ht.kp.mono (S' := T.w) (fun k e => by rw [htw]; rcases e with e | e <;> simp [e])).setCell (p := ⟨b8, 0, none⟩) (by rw [htw]; simp) _).setCell (p := ⟨b9, 0, none⟩) (by rw [htw]; simp) _
 have hKX : Keep (fun k => k = b8 ∨ k = b9) X ((X.setCell ⟨b8, 0, none⟩ vp').setCell ⟨b9, 0, none⟩ vw') := ((Keep.refl (fun k => k = b8 ∨ k = b9) X).setCell (p := ⟨b8, 0, none⟩) (.inl rfl) _).setCell (p := ⟨b9, 0, none⟩) (.inr rfl) _
 have hX : ∀ k, k ≠ b8 → k ≠ b9 → ((X.setCell ⟨b8, 0, none⟩ vp').setCell ⟨b9, 0, none⟩ vw').heap[k]? = X.heap[k]? := fun k h1 h2 =>
  (Below.heap_setCell _ _ _ _ (by simpa using h2)).trans (Below.heap_setCell _ _ _ _ (by simpa using h1))
 have hlow : ∀ k, k < B → k ≠ b8 → k ≠ b9 → ((X.setCell ⟨b8, 0, none⟩ vp').setCell ⟨b9, 0, none⟩ vw').heap[k]? = W.heap[k]? := fun k hk h1 h2 =>
  (hX k h1 h2).trans (ht.kp.block k (by omega) (fun e => by rcases e with e | e; have := (h.o8.lt k e).1; omega; have := (h.o9.lt k e).1; omega))
 have hT' : ∀ k, (k = b4 ∨ k = b5 ∨ k = b6 ∨ k = b8 ∨ k = b9 ∨ k = lr ∨ vp'.ownBlock = some k ∨ vw'.ownBlock = some k) → T.w k ∨ W.heap.size ≤ k := by
  intro k hk
  rw [htw]
  rcases hk with e | e | e | e | e | e | e | e
  ·exact .inl (.inl e)
  ·exact .inl (.inr (.inl e))
  ·exact .inl (.inr (.inr (.inl e)))
  ·exact .inl (.inr (.inr (.inr (.inl e))))
  ·exact .inl (.inr (.inr (.inr (.inr (.inl e)))))
  ·exact .inl (.inr (.inr (.inr (.inr (.inr (.inl e))))))
  ·rcases ht.n8 k e with e | e
   ·exact .inl (.inr (.inr (.inr (.inr (.inr (.inr (.inl e)))))))
   ·exact .inr e
  ·rcases ht.n9 k e with e | e
   ·exact .inl (.inr (.inr (.inr (.inr (.inr (.inr (.inr e)))))))
   ·exact .inr e
 have hwlt : ∀ p ∈ ps ++ [(A', n', c', now)], 0 < p.2.1 → ∀ ad, p.1 = some ad → ad.block < W.heap.size ∧ ¬ T.w ad.block := by
  intro p hp hn ad had
  have hwp : IsWord W p.1 p.2.1 p.2.2.1 p.2.2.2 ∧ ¬ T.w ad.block := by
   rcases List.mem_append.1 hp with hp | hp
   ·exact ⟨h.pp p hp, (h.pd p hp ad had).2 hn⟩
   ·obtain rfl : p = (A', n', c', now) := by simpa using hp
    exact ⟨hwd, fun e => (hfr ad had).2 (.inl e)⟩
  obtain ⟨b, off, hb, hlt, _⟩ := hwp.1.2.2.2.2 hn
  rw [had] at hb
  injection hb with hb
  subst hb
  exact ⟨hlt, hwp.2⟩
 refine ⟨⟨fun k => k = b4 ∨ k = b5 ∨ k = b6 ∨ k = b8 ∨ k = b9 ∨ k = lr ∨ vp'.ownBlock = some k ∨ vw'.ownBlock = some k, fun k => ∃ p ∈ ps ++ [(A', n', c', now)], 0 < p.2.1 ∧ ∃ ad, p.1 = some ad ∧ ad.block = k⟩, ⟨rfl, rfl, h.lt, h.ds, (hlow _ l4 e48 e49).trans h.c4, (hlow _ l5 e58 e59).trans h.c5, (hlow _ l6 e68 e69).trans h.c6, ?_, ?_, own_heap (w := X) ?_ fun k e => hX k ?_ ?_, own_heap (w := X) ?_ fun k e => hX k ?_ ?_, ht.ne, ?_, ?_, ?_, ?_, h.bb, (hlow _ ll d8 d9).trans h.lp⟩, hK, hT', ?_⟩
 ·exact (Below.heap_setCell _ _ _ _ (by simpa using e89)).trans (one_setCell ht.c8)
 ·exact one_setCell ((Below.heap_setCell _ _ _ _ (by simpa using e89.symm)).trans ht.c9)
 ·have := ht.o8; rw [List.length_append, List.length_singleton, placesC_snoc]; exact this
 ·have := (ht.o8.lt k e).1; omega
 ·have := (ht.o8.lt k e).1; omega
 ·have := ht.o9; rw [List.length_append, List.length_singleton, List.map_append, List.map_singleton]; exact this
 ·have := (ht.o9.lt k e).1; omega
 ·have := (ht.o9.lt k e).1; omega
 ·rw [List.map_append, List.map_append, h.pw]; rfl
 ·intro p hp
  have hwp : IsWord W p.1 p.2.1 p.2.2.1 p.2.2.2 := by
   rcases List.mem_append.1 hp with hp | hp
   ·exact h.pp p hp
   ·obtain rfl : p = (A', n', c', now) := by simpa using hp
    exact hwd
  exact hwp.keep hK fun hn ad had => (hwlt p hp hn ad had).2
 ·intro p hp ad had
  refine ⟨?_, fun hn hT => ?_⟩
  ·rcases List.mem_append.1 hp with hp | hp
   ·exact (h.pd p hp ad had).1
   ·obtain rfl : p = (A', n', c', now) := by simpa using hp
    exact (hfr ad had).1
  ·obtain ⟨h1, h2⟩ := hwlt p hp hn ad had
   rcases hT' _ hT with h3 | h3
   ·exact h2 h3
   ·omega
 ·refine ((h.kp.mono (S' := fun k => (k = b4 ∨ k = b5 ∨ k = b6 ∨ k = b8 ∨ k = b9 ∨ k = lr) ∨ B ≤ k) (fun _ e => .inl e)).trans (hK.mono (S' := fun k => (k = b4 ∨ k = b5 ∨ k = b6 ∨ k = b8 ∨ k = b9 ∨ k = lr) ∨ B ≤ k) (fun k e => by
   rw [htw] at e
   rcases e with e | e | e | e | e | e | e | e
   ·exact .inl (.inl e)
   ·exact .inl (.inr (.inl e))
   ·exact .inl (.inr (.inr (.inl e)))
   ·exact .inl (.inr (.inr (.inr (.inl e))))
   ·exact .inl (.inr (.inr (.inr (.inr (.inl e)))))
   ·exact .inl (.inr (.inr (.inr (.inr (.inr e)))))
   ·exact .inr (h.o8.lt k e).1
   ·exact .inr (h.o9.lt k e).1))).old fun k hlt e => e.resolve_right (by omega)
 ·intro k hk
  rcases hk with hk | ⟨p, hp, hn, ad, had, rfl⟩
  ·rcases hT' k hk with e | e
   ·exact .inl (.inl e)
   ·exact .inr (.inl e)
  ·rcases List.mem_append.1 hp with hp | hp
   ·exact .inl (.inr (by rw [h.tu]; exact ⟨p, hp, hn, ad, had, rfl⟩))
   ·obtain rfl : p = (A', n', c', now) := by simpa using hp
    exact .inr (.inr ⟨hn, ad, had, rfl⟩)
end ts
end Go.Proofs.YtaglfmlgbcmakaaGreatDoor

/-
  derive.Forms.
-/
import Derived.Test.YtlgliddhideflaaGreatDoorG14
set_option linter.all false
set_option maxRecDepth 100000
set_option maxHeartbeats 4000000
namespace Go.Proofs.YtlgliddhideflaaGreatDoor
open Go.RowKit Go.Shelf
attribute [local go_sem] Oper.semAt_some
theorem forms_all (A : Option Addr) (n c : Nat) (xs : List LawR) (Aw : Option Addr) (nw cw : Nat) (ws : List Snd) (w : World) (hx : IsLaws w A n c xs) (hw : IsWord w Aw nw cw ws) (hT : TabOK w) :
  Calls Tryz.prog 85 #[.slice A n c, .slice Aw nw cw] w (RetWsE w (formsE (lawsD xs) ws)) := by
 have HX := hI hx; clear hx
 have HW := hI hw; clear hw
 have HT := hI hT; clear hT
 refine (callsIn_wide (n := 9)).1 (callsIn_of_wp_marks Tryz.func85 rfl trivial ?_ rfl)
 simp only [Tryz.ntmps85, List.size_toArray, List.length_cons, List.length_nil, Nat.reduceAdd, Nat.reduceSub, Array.replicate_succ, Array.replicate_zero, List.push_toArray, List.append_toArray, List.nil_append, List.cons_append]
 gi_wp2
 have k5 : ((w.alloc (.cells #[.int .i64 0] 37)).alloc (.cells #[.slice Aw nw cw] 32)).heap[w.heap.size]? = some (.cells #[.int .i64 0] 37 (0, 0)) := hpt
 have kB : Below w.heap.size w ((w.alloc (.cells #[.int .i64 0] 37)).alloc (.cells #[.slice Aw nw cw] 32)) := bel
 have kw := one_words (HW.out.below (B := w.heap.size) (w' := w.alloc (.cells #[.int .i64 0] 37)) bel rr) 32
 rw [show (w.alloc (.cells #[.int .i64 0] 37)).heap.size = w.heap.size + 1 by simp] at kw
 generalize ((w.alloc (.cells #[.int .i64 0] 37)).alloc (.cells #[.slice Aw nw cw] 32)) = V0 at *
 refine ⟨trivial, ?_⟩
 refine (callsIn_wide.2 (dcheck_c A n c xs _ 1 1 [ws] V0 (HX.out.below kB rr) kw)).mono ?_
 rintro e w1 ⟨rfl, hb1⟩
 have h5 := (hb1.block _ (lt_of_block k5)).trans k5
 have hB1 : Below w.heap.size w w1 := kB.trans (hb1.mono kB.size)
 clear hb1 k5 kB kw
 obtain ⟨b5, e5⟩ : ∃ b5, b5 = w.heap.size := ⟨_, rfl⟩
 rw [← e5]
 rw [← e5] at h5
 have e5' := Nat.le_of_eq e5.symm
 have HE5 := hI e5; clear e5
 have l5 := lt_of_block h5
 have c5 := cell_of_one h5
 have f5 := free_of_one h5
 have H5 := hI h5; clear h5
 have HB1 := hI hB1; clear hB1
 obtain ⟨er, her⟩ : ∃ er, er = chkM (lawsD xs) [ws] := ⟨_, rfl⟩
 rw [← her]
 have HER := hI her; clear her
 by_cases h0 : er = 0
 case neg =>
  have h1 : (er != 0) = true := by simpa using h0
  have HM : Hid (formsE (lawsD xs) ws = (er, [])) := by show formsE _ _ = _; unfold formsE; rw [← HER.out, if_pos h0]
  clear h0
  gi_wp2
  have x5 := one_setCell (u := .int .i64 er) H5.out
  have xB : Below w.heap.size w (w1.setCell ⟨b5, 0, none⟩ (.int .i64 er)) := HB1.out.setCell (p := ⟨b5, 0, none⟩) (by simp; omega) _
  refine post_ret (B := w.heap.size) (by exact trivial) fun w' hw' => ⟨_, results_tmp_errno Tryz.results85 _ _ b5 (.slice none 0 0) er rfl rfl (cell_of_one (hw'.row x5)), none, 0, 0, by rw [HM.out], by rw [HM.out]; exact IsWords.nil _, xB.trans hw'.below⟩
 have h1 : (er != 0) = false := by simpa using h0
 have HLN : Hid (ws.length ≤ 32) := chk_len (by rw [← HER.out]; exact h0)
 have HL64 : Hid ((lawsD xs).length ≤ 64) := lawsE_len (chk_laws (by rw [← HER.out]; exact h0))
 have HM : Hid (formsE (lawsD xs) ws = if (formsM (lawsD xs) ws).1 ≠ 0 then ((formsM (lawsD xs) ws).1, []) else (0, (formsM (lawsD xs) ws).2)) := by show formsE _ _ = _; unfold formsE; rw [← HER.out, if_neg (by simpa using h0)]
 clear h0 c5 f5
 gi_wp2
 have k5 : (w1.alloc (.cells #[.slice none 0 0] 46)).heap[b5]? = some (.cells #[.int .i64 0] 37 (0, 0)) := (heap_old_at l5).trans H5.out
 have k7 : (w1.alloc (.cells #[.slice none 0 0] 46)).heap[w1.heap.size]? = some (.cells #[.slice none 0 0] 46 (0, 0)) := heap_new_at rfl
 have kB : Below w.heap.size w (w1.alloc (.cells #[.slice none 0 0] 46)) := HB1.out.alloc HB1.out.size _
 generalize (w1.alloc (.cells #[.slice none 0 0] 46)) = V1 at *
 refine ⟨trivial, ?_⟩
 refine (callsIn_wide.2 (forms_c A n c Aw nw cw V1)).mono ?_
 rintro e w2 ⟨bw, bl, rfl, r1, r2, s1, s2, hb2⟩
 have h5 := hI ((hb2.block _ (lt_of_block k5)).trans k5)
 have h7 := hI ((hb2.block _ (lt_of_block k7)).trans k7)
 have hB2 := hI (kB.trans (hb2.mono kB.size))
 have l7 := lt_of_block k7
 have lb1 := lt_of_block r1
 have lb2 := lt_of_block r2
 have R1 := hI r1; clear r1
 have R2 := hI r2; clear r2
 have hw1s := HB1.out.size
 clear hb2 k5 k7 kB
 gi_wp2
 obtain ⟨b7, e7⟩ : ∃ b7, b7 = w1.heap.size := ⟨_, rfl⟩
 rw [← e7]
 rw [← e7] at h7 l7
 have e7' := Nat.le_of_eq e7.symm
 have e57 : b5 < b7 := by omega
 clear e7
 refine wide_range (gf := 150) (lb := #[.pointer (some ⟨bw, 0, none⟩), .pointer (some ⟨bl, 0, none⟩)]) rfl (enters_of Tryz.func150 (by kernel_rfl) rfl) fun fn D lr rc W1 hrc hD hlr hK2 hD1 hl1 hs2 => ?_
 have HRC := hI hrc; clear hrc
 have hDl : D < lr := by omega
 have hlW : lr < W1.heap.size := by omega
 have hD2 : w2.heap.size ≤ D := by omega
 clear hs2 hD hlr
 have HD1 := hI hD1; clear hD1
 have hBW1 := hI (hB2.out.trans (hK2.to_below (B := w2.heap.size) (fun k hk => hk.elim) rr |>.mono hB2.out.size))
 obtain ⟨fs, hfs⟩ : ∃ fs, fs = formsM (lawsD xs) ws := ⟨_, rfl⟩
 have hfl : fs.2.length ≤ 65 := by rw [hfs]; have h1 := formsM_len (lawsD xs) ws; have h2 := HL64.out; omega
 have HFS := hI hfs; clear hfs
 obtain ⟨J, hJ⟩ : ∃ J : Nat → (Nat → Prop) → World → Prop, J = fun i T W => ∃ vw ps, ps.map Part.word = fs.2.take i ∧ ps.length = i ∧ CapW W1.heap.size b5 b7 lr rc W1 vw ps T .ready W := ⟨_, rfl⟩
 have HJ := hI hJ; clear hJ
 have h7W1 : W1.heap[b7]? = some (.cells #[.slice none 0 0] 46 (0, 0)) := (hK2.block _ (by omega) (by simp)).trans h7.out
 have h5W1 : Hid (W1.heap[b5]? = some (.cells #[.int .i64 0] 37 (0, 0))) := (hK2.block _ (by omega) (by simp)).trans h5.out
 refine (forms1_iter (9 - 1) lr bw bl (by omega) A n c xs Aw nw cw ws W1 J (fun k => k = b7 ∨ k = lr ∨ (Value.slice none 0 0).ownBlock = some k) W1.heap.size ?hu ?h0 (by have := HLN.out; have := HW.out.len; omega)).mono ?_
 case h0 =>
  rw [HJ.out]
  exact ⟨.slice none 0 0, [], rfl, rfl, rfl, ⟨by omega, by omega, by omega, by omega, by omega, by omega⟩, h7W1, World.ownsRow_nil _ _ _ _, fun p hp => by simp at hp, fun p hp => by simp at hp, Keep.refl _ _, rfl, hl1⟩
 case hu =>
  refine ⟨?hB, ?hlt, ?hst, ?hrd, ?hy⟩
  case hB =>
   intro i T W hx
   rw [HJ.out] at hx
   obtain ⟨vw, ps, _, _, hx⟩ := hx
   exact hx.kp.size
  case hlt =>
   intro i T W hx k hk
   rw [HJ.out] at hx
   obtain ⟨vw, ps, _, _, hx⟩ := hx
   exact hx.lts k hk
  case hst =>
   intro i T W W' hx hb
   rw [HJ.out] at hx ⊢
   obtain ⟨vw, ps, h1, h2, hx⟩ := hx
   exact ⟨vw, ps, h1, h2, hx.below hb⟩
  case hrd =>
   intro i T W hx
   rw [HJ.out] at hx
   obtain ⟨vw, ps, _, _, hx⟩ := hx
   have h2 := hx.kp
   have hBW : Below w.heap.size w W := hBW1.out.trans (h2.to_below (fun k hk => by have := hB2.out.size; omega) hBW1.out.size)
   exact ⟨(h2.block _ (by omega) (by omega)).trans ((hK2.block _ lb1 (by simp)).trans R1.out), (h2.block _ (by omega) (by omega)).trans ((hK2.block _ lb2 (by simp)).trans R2.out), HX.out.below hBW rr, HW.out.below hBW rr, HT.out.below hBW rr⟩
  case hy =>
   intro i T W A' n' c' x hfx hwd hfr hx
   rw [HJ.out] at hx
   obtain ⟨vw, ps, hps, hpl, hx⟩ := hx
   refine wide_round HRC.out hx.lp rfl ?_
   have HX2 := hI hx; clear hx
   have HFX := hI hfx; clear hfx
   have HWD := hI hwd; clear hwd
   have HFR := hI hfr; clear hfr
   have HPS := hI hps; clear hps
   have HPL := hI hpl; clear hpl
   gi_wp2
   refine ⟨HX2.out.lp, ?_⟩
   have hxv := HX2.out.put .busy
   have hwv : IsWord (W.putObj lr (.loop (rc .busy none))) A' n' c' x := HWD.out.keep (S := fun k => k = lr) ((Keep.refl (fun k => k = lr) W).putObj rfl _) fun _ ad had e => (HFR.out ad had).2 (by rw [HX2.out.tw]; simp [e])
   have hkv : Keep (fun k => k = lr) W (W.putObj lr (.loop (rc .busy none))) := (Keep.refl (fun k => k = lr) W).putObj rfl _
   have hsv : (W.putObj lr (.loop (rc .busy none))).heap.size = W.heap.size := by simp
   generalize W.putObj lr (.loop (rc .busy none)) = V at *
   have c7 := cell_of_one hxv.c7
   have HXV := hI hxv; clear hxv
   have HWV := hI hwv; clear hwv
   have HKV := hI hkv; clear hkv
   have HSV := hI hsv; clear hsv
   have hnl : n' ≤ 4096 := by
    have h1 := formsM_short _ _ HLN.out x (List.mem_of_getElem? HFX.out)
    have h2 := HWV.out.len
    omega
   gi_wp2
   refine round_region (fun W' => W'.cell? ⟨b7, 0, none⟩ = some vw) (by kernel_rfl) (by kernel_rfl) (fun _ _ h => by exact h) c7 (fun hHeld => ?_)
   (refine' anyT_tk 0 rfl ?_; (try simp only [Act.put, nY, nX])); (refine' anyT_tk 1 rfl ?_; (try simp only [Act.put, nY, nX]))
   (refine anyT_sp 2 rfl (fun K' hK' => ?_); simp only [nY]; go_simp)
   refine (clone_c A' n' c' x _ (HWV.out.below (B := V.heap.size) ((Below.refl V.heap.size V).drew) rr) hnl).mono ?_
   rintro e w3 ⟨A3, n3, c3, rfl, hw3, hb3, hf3⟩
   have hb3' : Below V.heap.size V w3 := (Below.refl V.heap.size V).drew.trans hb3
   have g7 := (hb3'.block _ (lt_of_block HXV.out.c7)).trans HXV.out.c7
   refine hK' _ _ ⟨.inr (cell_of_one g7), fun _ => ?_⟩
   clear hK' K'
   (try simp only [Act.put, nY, nX])
   (refine anyT_sp 3 rfl (fun K' hK' => ?_); simp only [nY]; go_simp)
   have z1 : (w3.alloc (.cells #[.slice A3 n3 c3] 32)).heap[w3.heap.size]? = some (.cells #[.slice A3 n3 c3] 32 (0, 0)) := heap_new_at rfl
   have g7' := (heap_old_at (o := .cells #[.slice A3 n3 c3] 32) (lt_of_block g7)).trans g7
   have o7 := (own_keep HXV.out.o7 hb3' rr).alloc (.cells #[.slice A3 n3 c3] 32)
   refine hK' _ _ ⟨.inr (cell_of_one g7'), fun _ => ?_⟩
   clear hK' K' c7 hHeld
   (try simp only [Act.put, nY, nX])
   have hVB : W1.heap.size ≤ V.heap.size := HXV.out.kp.size
   have hV3 := hb3'.size
   have hil : i < fs.2.length := by rw [HFS.out]; exact (List.getElem?_eq_some_iff.1 HFX.out).1
   have hpl' : ps.length ≤ 65 := by have := HPL.out; omega
   refine anyT_sp 4 rfl (fun K' hK' => ?_)
   rw [if_pos (by rfl)]
   refine wp_append_own_at (.tmp 22) (.tmp 25) 46 rfl W1.heap.size 32 (.slice none 0 0) 1 24 Tryz.underlying46 words_info rfl (by decide) vw ps.length (ps.map Part.val) (by rfl) o7 ⟨w3.heap.size, 0, none⟩ 1 1 [.slice A3 n3 c3] (by rfl) rfl (one_cells z1) (by intro u hu; simp at hu; subst hu; rfl) (by unfold maxLen; omega) (by omega) (by simp; omega) ?_
   intro vw' X2 hown hg _ hat
   obtain ⟨A9, k9, rfl⟩ := own_form hown
   have hn7 : some b7 ≠ vw.ownBlock := fun e => by have := (HXV.out.o7.lt b7 e.symm).1; have := HXV.out.lt; omega
   have x7 := (hg.block b7 (lt_of_block g7') hn7).trans g7'
   have c7 := cell_of_one x7
   have f7 := free_of_one x7
   refine hK' _ _ ⟨.inr c7, fun _ => ?_⟩
   clear hK' K'
   obtain ⟨T', p1, p2, p3⟩ := HXV.out.push hb3' hw3 (fun ad had => hf3 ad had) hown hg hat
   have P1 := hI p1; clear p1
   have P2 := hI p2; clear p2
   have P3 := hI p3; clear p3
   clear hown hg hat g7 g7' z1 o7 x7 hn7 hw3 hf3 hb3 hb3'
   (try simp only [Act.put, nY, nX])
   (refine anyT_sp 5 rfl (fun K' hK' => ?_); simp only [nY]; go_simp)
   refine hK' _ _ ⟨.inl (by kernel_rfl), fun _ => anyT_done (by kernel_rfl) ?_ _⟩
   clear hK' K' c7 f7
   have p1 := P1.out.put .ready
   have p2 := P2.out.putObj (l := lr) (by rw [HX2.out.tw]; simp) (.loop (rc .ready none))
   refine ⟨P1.out.lp, rfl, T', ?_, (HKV.out.mono (S' := T) (fun k e => by rw [HX2.out.tw]; simp [e])).trans p2, fun k hk => by rw [← HSV.out]; exact P3.out k hk⟩
   rw [HJ.out]
   refine ⟨_, _, ?_, by rw [List.length_append, HPL.out]; rfl, p1⟩
   rw [List.map_append, HPS.out, take_snoc' fs.2 i x (by rw [HFS.out]; exact HFX.out)]
   rfl
 rintro e W' ⟨⟨T, hx⟩, hend⟩
 rw [← HFS.out] at hx hend
 rw [HJ.out] at hx
 obtain ⟨vw, ps, hps, hpl, hx⟩ := hx
 rcases hend with ⟨h0, v, rfl⟩ | ⟨h0, rfl⟩
 ·refine .inl ⟨hx.lp, ?_⟩
  clear hpl
  rw [List.take_of_length_le rr] at hps
  have HPS := hI hps; clear hps
  have HM' : Hid (formsE (lawsD xs) ws = (0, fs.2)) := by show formsE _ _ = _; rw [HM.out, ← HFS.out, if_neg (by simpa using h0)]
  have hxv := hx.put .exhausted
  clear hx
  generalize W'.putObj lr (.loop (rc .exhausted none)) = X at *
  obtain ⟨A7, k7, rfl⟩ := own_form hxv.o7
  have c7 := cell_of_one hxv.c7
  have x5 := (hxv.kp.block b5 (by omega) (by omega)).trans h5W1.out
  have c5 := cell_of_one x5
  have f5 := free_of_one x5
  have HXV := hI hxv; clear hxv
  gi_wp2
  have y5 := one_setCell (u := .int .i64 0) x5
  have yK : Keep (fun k => k = b5) X (X.setCell ⟨b5, 0, none⟩ (.int .i64 0)) := (Keep.refl (fun k => k = b5) X).setCell (p := ⟨b5, 0, none⟩) rfl _
  have yo : (X.setCell ⟨b5, 0, none⟩ (.int .i64 0)).ownsRow W1.heap.size 32 1 (.slice A7 ps.length k7) ps.length (ps.map Part.val) := own_heap HXV.out.o7 fun k e => yK.block k (HXV.out.o7.lt k e).2 (by have := (HXV.out.o7.lt k e).1; omega)
  have yp : Parts (X.setCell ⟨b5, 0, none⟩ (.int .i64 0)) ps := fun p hp => (HXV.out.pp p hp).keep yK fun hn ad had e => by have := (HXV.out.pd p hp ad had).1; omega
  have yB : Below w.heap.size w (X.setCell ⟨b5, 0, none⟩ (.int .i64 0)) := (hBW1.out.trans (HXV.out.kp.to_below (fun k hk => by have := hB2.out.size; omega) hBW1.out.size)).setCell (p := ⟨b5, 0, none⟩) (by simp; omega) _
  have hM : Marks w.heap.size (X.setCell ⟨b5, 0, none⟩ (.int .i64 0)) [mark D] := ⟨D, rfl, by have := hB2.out.size; omega, ((yK.block D (by have := HXV.out.kp.size; omega) (by omega)).trans (HXV.out.kp.block D (by omega) (by omega))).trans HD1.out, by simp, trivial⟩
  refine leavesM_marks (B := w.heap.size) (ds := [mark D]) (rest := [resc b5]) (by simp) _ hM fun w' hw' => ?_
  refine leaves_rescue_ret ⟨_, results_tmp_errno Tryz.results85 _ _ b5 (.slice A7 ps.length k7) 0 rfl rfl (cell_of_one (hw'.row y5)), A7, ps.length, k7, by rw [HM'.out], ?_, yB.trans hw'.below⟩
  rw [HM'.out]
  exact ⟨ps, HPS.out, Cells.of_own (own_shut yo hw') (by decide), fun p hp => (yp p hp).shut hw'⟩
 ·have HM' : Hid (formsE (lawsD xs) ws = (fs.1, [])) := by show formsE _ _ = _; rw [HM.out, ← HFS.out, if_pos h0]
  simp only [afterRange, Exit.inBlock, Exit.then]
  have x5 := (hx.kp.block b5 (by omega) (by omega)).trans h5W1.out
  have hM : Marks w.heap.size W' [mark D] := ⟨D, rfl, by have := hB2.out.size; omega, (hx.kp.block D (by omega) (by omega)).trans HD1.out, by simp, trivial⟩
  have hB : Below w.heap.size w W' := hBW1.out.trans (hx.kp.to_below (fun k hk => by have := hB2.out.size; omega) hBW1.out.size)
  refine leavesM_marks (B := w.heap.size) (ds := [mark D]) (rest := [resc b5]) (by simp) _ hM fun w' hw' => ?_
  have y5 := one_setCell (u := .int .i64 fs.1) (hw'.row x5)
  refine leaves_rescue_fail (hw'.row x5) ⟨_, results_tmp_errno Tryz.results85 _ _ b5 (.slice none 0 0) fs.1 rfl rfl (cell_of_one y5), none, 0, 0, by rw [HM'.out], by rw [HM'.out]; exact IsWords.nil _, (hB.trans hw'.below).setCell (p := ⟨b5, 0, none⟩) (by simp; omega) _⟩
end Go.Proofs.YtlgliddhideflaaGreatDoor

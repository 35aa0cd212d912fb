/-
  derive.outcome, derive.rescue, derive.attempt.
  derive.rescue, as a deferred call; how a function leaves that defers it.
  derive.Derive, derive.Part.
  Words collected into a captured slice while a function is ranged over.
  Forms of a derivation, in plain words.
  Forms of a derivation that does not fail.
-/
import Derived.RecoverIn
import Derived.Test.YtaglfmlgbcmakaaGreatDoorG13
set_option linter.all false
set_option maxRecDepth 100000
set_option maxHeartbeats 4000000
namespace Go.Proofs.YtaglfmlgbcmakaaGreatDoor
open Go.RowKit Go.Shelf
attribute [local go_sem] Oper.semAt_some
def RetOut (w : World) (r : Int × List (List Snd)) (e : Ending) (w' : World) : Prop :=
 Below w.heap.size w w' ∧ ((r.1 = 0 ∧ ∃ A n c x, r.2.getLast? = some x ∧ e = .returned (.slice A n c) ∧ IsWord w' A n c x ∧ ∀ ad, A = some ad → w.heap.size ≤ ad.block) ∨
  (r.1 ≠ 0 ∧ e = .panicked [{ v := .iface 196 (.int .i64 r.1), recovered := false }]))
theorem results_cell_word {fn : Func} {p : Tmp} (h : fn.results = #[.cell p 28]) (tmps : Array Value) (w : World) (b : Nat) (A : Option Addr) (n c : Nat) (hp : tmps.getD p undef = .pointer (some ⟨b, 0, none⟩)) (hr : w.cell? ⟨b, 0, none⟩ = some (.slice A n c)) :
  (results fn tmps).run Tryz.prog w = .ok (.slice A n c) w := by
 have hp' : tmps[p]?.getD undef = .pointer (some ⟨b, 0, none⟩) := by simpa using hp
 simp [results, h, hp', asAddr, loadVar, go_sem, hr]
theorem outcome_c (A : Option Addr) (n c : Nat) (xs : List LawR) (Aw : Option Addr) (nw cw : Nat) (ws : List Snd) (w : World) (hx : IsLaws w A n c xs) (hw : IsWord w Aw nw cw ws) (hT : TabOK w) (hnw : nw ≤ 4096) :
  Calls Tryz.prog 112 #[.slice A n c, .slice Aw nw cw] w (RetOut w (formsM (lawsD xs) ws)) := by
 have HX := hI hx; clear hx
 have HW := hI hw; clear hw
 have HT := hI hT; clear hT
 refine (callsIn_wide (n := 9)).1 (callsIn_of_wp_marks Tryz.func112 rfl trivial ?_ rfl)
 simp only [Tryz.ntmps112, List.size_toArray, List.length_cons, List.length_nil, Nat.reduceAdd, Nat.reduceSub, Array.replicate_succ, Array.replicate_zero, List.push_toArray, List.append_toArray, List.nil_append, List.cons_append]
 gi_wp2
 have k4 : (w.alloc (.cells #[.slice none 0 0] 28)).heap[w.heap.size]? = some (.cells #[.slice none 0 0] 28 (0, 0)) := heap_new_at rfl
 have kB : Below w.heap.size w (w.alloc (.cells #[.slice none 0 0] 28)) := bel
 generalize (w.alloc (.cells #[.slice none 0 0] 28)) = V0 at *
 refine ⟨trivial, ?_⟩
 refine (callsIn_wide.2 (forms_c A n c Aw nw cw V0)).mono ?_
 rintro e w2 ⟨bw, bl, rfl, r1, r2, s1, s2, hb2⟩
 have h4 := hI ((hb2.block _ (lt_of_block k4)).trans k4)
 have hB2 := hI (kB.trans (hb2.mono kB.size))
 have l4 := lt_of_block k4
 have l5 := lt_of_block r1
 have l6 := lt_of_block r2
 have R1 := hI r1; clear r1
 have R2 := hI r2; clear r2
 clear hb2 k4 kB
 gi_wp2
 obtain ⟨b4, e4⟩ : ∃ b4, b4 = w.heap.size := ⟨_, rfl⟩
 rw [← e4]
 rw [← e4] at h4 l4
 have e4' := Nat.le_of_eq e4.symm
 have HE4 := hI e4; clear e4
 refine wide_range (gf := 172) (lb := #[.pointer (some ⟨bw, 0, none⟩), .pointer (some ⟨bl, 0, none⟩)]) rfl (enters_of Tryz.func172 (by kernel_rfl) rfl) fun fn D lr rc W1 hrc hD hlr hK2 hD1 hl1 hs2 => ?_
 have HRC := hI hrc; clear hrc
 have hDl : D < lr := by omega
 have hlW : lr < W1.heap.size := by omega
 have hD2 : w2.heap.size ≤ D := by omega
 clear hs2 hD hlr
 have HD1 := hI hD1; clear hD1
 have hBW1 := hI (hB2.out.trans (hK2.to_below (B := w2.heap.size) (fun k hk => hk.elim) rr |>.mono hB2.out.size))
 obtain ⟨fs, hfs⟩ : ∃ fs, fs = formsM (lawsD xs) ws := ⟨_, rfl⟩
 obtain ⟨J, hJ⟩ : ∃ J : Nat → (Nat → Prop) → World → Prop, J = fun i T W => T = (fun k => k = b4 ∨ k = lr) ∧ Keep (fun k => k = b4 ∨ k = lr) W1 W ∧ W.heap[lr]? = some (.loop (rc .ready none)) ∧
   ∃ A4 n4 c4, W.heap[b4]? = some (.cells #[.slice A4 n4 c4] 28 (0, 0)) ∧ ∀ j, i = j + 1 → ∃ x, fs.2[j]? = some x ∧ IsWord W A4 n4 c4 x ∧ ∀ ad, A4 = some ad → W1.heap.size ≤ ad.block := ⟨_, rfl⟩
 have HJ := hI hJ; clear hJ
 have h4W1 : W1.heap[b4]? = some (.cells #[.slice none 0 0] 28 (0, 0)) := (hK2.block _ (by omega) (by simp)).trans h4.out
 refine (forms1_iter (9 - 1) lr bw bl (by omega) A n c xs Aw nw cw ws W1 J (fun k => k = b4 ∨ k = lr) W1.heap.size ?hu ?h0 hnw).mono ?_
 case h0 =>
  rw [HJ.out]
  exact ⟨rfl, Keep.refl _ _, hl1, none, 0, 0, h4W1, fun j hj => by omega⟩
 case hu =>
  refine ⟨?hB, ?hlt, ?hst, ?hrd, ?hy⟩
  case hB =>
   intro i T W hx
   rw [HJ.out] at hx
   exact hx.2.1.size
  case hlt =>
   intro i T W hx k hk
   rw [HJ.out] at hx
   obtain ⟨rfl, h2, h3, A4, n4, c4, h4, _⟩ := hx
   rcases hk with rfl | rfl
   ·exact lt_of_block h4
   ·exact lt_of_block h3
  case hst =>
   intro i T W W' hx hb
   rw [HJ.out] at hx ⊢
   obtain ⟨rfl, h2, h3, A4, n4, c4, h4, h5⟩ := hx
   refine ⟨rfl, h2.below hb rr, (hb.block _ (lt_of_block h3)).trans h3, A4, n4, c4, (hb.block _ (lt_of_block h4)).trans h4, fun j hj => ?_⟩
   obtain ⟨x, h6, h7, h8⟩ := h5 j hj
   exact ⟨x, h6, h7.below hb rr, h8⟩
  case hrd =>
   intro i T W hx
   rw [HJ.out] at hx
   obtain ⟨rfl, h2, h3, A4, n4, c4, h4, h5⟩ := hx
   have hBW : Below w.heap.size w W := hBW1.out.trans (h2.to_below (fun k hk => by have := hB2.out.size; omega) hBW1.out.size)
   exact ⟨(h2.block _ (by omega) (by omega)).trans ((hK2.block _ l5 (by simp)).trans R1.out), (h2.block _ (by omega) (by omega)).trans ((hK2.block _ l6 (by simp)).trans R2.out), HX.out.below hBW rr, HW.out.below hBW rr, HT.out.below hBW rr⟩
  case hy =>
   intro i T W A' n' c' x hfx hwd hfr hx
   rw [HJ.out] at hx
   obtain ⟨rfl, h2, h3, A4, n4, c4, h4', _⟩ := hx
   refine wide_round HRC.out h3 rfl ?_
   have H2 := hI h2; clear h2
   have H3 := hI h3; clear h3
   have HFX := hI hfx; clear hfx
   have HWD := hI hwd; clear hwd
   have HFR := hI hfr; clear hfr
   have c4' := cell_of_one h4'
   have f4' := free_of_one h4'
   have H4 := hI h4'; clear h4'
   gi_wp2
   have x3 : (W.setCell ⟨b4, 0, none⟩ (.slice A' n' c')).heap[lr]? = some (.loop (rc .ready none)) := (Below.heap_setCell _ _ _ _ (by simp; omega)).trans H3.out
   have x4 : (W.setCell ⟨b4, 0, none⟩ (.slice A' n' c')).heap[b4]? = some (.cells #[.slice A' n' c'] 28 (0, 0)) := one_setCell H4.out
   have xK : Keep (fun k => k = b4 ∨ k = lr) W (W.setCell ⟨b4, 0, none⟩ (.slice A' n' c')) := (Keep.refl (fun k => k = b4 ∨ k = lr) W).setCell (p := ⟨b4, 0, none⟩) (.inl rfl) _
   generalize (W.setCell ⟨b4, 0, none⟩ (.slice A' n' c')) = X at *
   refine ⟨x3, ?_⟩
   have y3 : (X.putObj lr (.loop (rc .busy none))).heap[lr]? = some (.loop (rc .busy none)) := World.putObj_heap_same (lt_of_block x3)
   have y4 := (World.putObj_heap_other (w := X) (o := .loop (rc .busy none)) (show b4 ≠ lr by omega)).trans x4
   have yK := xK.putObj (l := lr) (.inr rfl) (.loop (rc .busy none))
   generalize (X.putObj lr (.loop (rc .busy none))) = Y at *
   have Y3 := hI y3; clear y3
   gi_wp2
   refine ⟨Y3.out, rfl, fun k => k = b4 ∨ k = lr, ?_, yK.putObj (by simp) _, fun k hk => .inl hk⟩
   rw [HJ.out]
   have zK := yK.putObj (l := lr) (.inr rfl) (.loop (rc .ready none))
   refine ⟨rfl, H2.out.trans zK, World.putObj_heap_same (lt_of_block Y3.out), A', n', c', (World.putObj_heap_other (by omega)).trans y4, fun j hj => ?_⟩
   obtain rfl : j = i := by omega
   exact ⟨x, by rw [hfs]; exact HFX.out, HWD.out.keep zK (fun hn ad had hT => (HFR.out ad had).2 hT), fun ad had => (HFR.out ad had).1⟩
 rintro e W' ⟨⟨T, hx⟩, hend⟩
 rw [← hfs] at hx hend
 rw [HJ.out] at hx
 obtain ⟨rfl, h2, h3, A4, n4, c4, h4', h5⟩ := hx
 rcases hend with ⟨h0, v, rfl⟩ | ⟨h0, rfl⟩
 ·refine .inl ⟨h3, ?_⟩
  obtain ⟨j, hj⟩ : ∃ j, fs.2.length = j + 1 := by
   obtain ⟨r, hr⟩ := formsM_pos (lawsD xs) ws
   rw [hfs, hr]; exact ⟨_, rfl⟩
  obtain ⟨x, h6, h7, h8⟩ := h5 j hj
  have hKf := h2.putObj (l := lr) (by simp) (.loop (rc .exhausted none))
  have h4f : (W'.putObj lr (.loop (rc .exhausted none))).heap[b4]? = some (.cells #[.slice A4 n4 c4] 28 (0, 0)) := (World.putObj_heap_other (by omega)).trans h4'
  have hwf := h7.keep (S := fun k => k = lr) ((Keep.refl (fun k => k = lr) W').putObj rfl (.loop (rc .exhausted none))) (fun hn ad had e => by have := h8 ad had; omega)
  generalize W'.putObj lr (.loop (rc .exhausted none)) = X at *
  have c4' := cell_of_one h4f
  have f4' := free_of_one h4f
  have HKf := hI hKf; clear hKf h2 h3 h4' h5
  have H4f := hI h4f; clear h4f
  have HWf := hI hwf; clear hwf h7
  gi_wp2
  have s4 := one_setCell (u := .slice A4 n4 c4) H4f.out
  have sK := HKf.out.setCell (p := ⟨b4, 0, none⟩) (by simp) (.slice A4 n4 c4)
  have sw := HWf.out.keep (S := fun k => k = b4) ((Keep.refl (fun k => k = b4) X).setCell (p := ⟨b4, 0, none⟩) rfl (.slice A4 n4 c4)) (fun hn ad had e => by have := h8 ad had; omega)
  have hM : Marks w.heap.size (X.setCell ⟨b4, 0, none⟩ (.slice A4 n4 c4)) [mark D] := ⟨D, rfl, by have := hB2.out.size; omega, (sK.block D (by omega) (by omega)).trans HD1.out, by simp, trivial⟩
  refine post_ret (B := w.heap.size) hM fun w' hw' => ⟨.slice A4 n4 c4, results_cell_word Tryz.results112 _ _ b4 A4 n4 c4 rfl (cell_of_one (hw'.row s4)), ?_⟩
  rw [← hfs]
  refine ⟨(hBW1.out.trans (sK.to_below (fun k hk => by have := hB2.out.size; omega) hBW1.out.size)).trans hw'.below, .inl ⟨h0, A4, n4, c4, x, by rw [getLast_get hj]; exact h6, rfl, sw.shut hw', fun ad had => ?_⟩⟩
  have := h8 ad had
  omega
 ·have hM : Marks w.heap.size W' [mark D] := ⟨D, rfl, by have := hB2.out.size; omega, (h2.block D (by omega) (by omega)).trans HD1.out, by simp, trivial⟩
  simp only [afterRange, Exit.inBlock, Exit.then]
  refine post_panic (B := w.heap.size) hM fun w' hw' => ?_
  rw [← hfs]
  exact ⟨(hBW1.out.trans (h2.to_below (fun k hk => by have := hB2.out.size; omega) hBW1.out.size)).trans hw'.below, .inr ⟨h0, rfl⟩⟩
end Go.Proofs.YtaglfmlgbcmakaaGreatDoor
namespace Go.Proofs.YtaglfmlgbcmakaaGreatDoor
open Go.RowKit Go.Shelf
abbrev fail_ (er : Int) (r : Bool) : PanicEntry := { v := .iface 196 (.int .i64 er), recovered := r }
theorem assert_fail (er : Int) (w : World) : (Instr.typeAssert (.iface 196 (.int .i64 er)) 20 196 true).run Tryz.prog w = .ok (.tuple #[.int .i64 er, .bool true]) w := by kernel_rfl
theorem rescue_panicking (b : Nat) (v : Value) (er : Int) (w : World) (n : Nat) (hb : w.heap[b]? = some (.cells #[v] 30 (0, 0))) :
  CallsDIn Fence.wide n Tryz.prog 111 #[.pointer (some ⟨b, 0, none⟩)] (.panicking [fail_ er false]) w fun e u' w' =>
   e = .returned (.tuple #[]) ∧ u' = .panicking [fail_ er true] ∧ w' = w.setCell ⟨b, 0, none⟩ (.int .i64 er) := by
 have hc := cell_of_one hb
 have hf := free_of_one hb
 have ha := fun w => assert_fail er w
 refine callsDIn_of_wpSIn Tryz.func111 rfl trivial fun c₀ cs hu => ?_
 apply wpSIn_seq
 apply wpSIn_region
 simp [wpOpsSIn, go_sem, recoverD, hu, Tryz.ntmps111, Exit.thenS]
 simp only [List.size_toArray, List.length_cons, List.length_nil, Nat.reduceAdd, Nat.reduceSub, Array.replicate_succ, Array.replicate_zero, List.push_toArray, List.append_toArray, List.nil_append, List.cons_append, List.setIfInBounds_toArray, List.set_cons_zero, List.set_cons_succ]
 refine wpSIn_of_wpIn rfl ?_
 gi_wp2
 exact ⟨rfl, _, rfl, .tuple #[], by simp [results, Tryz.results111], rfl, rfl, rfl⟩
theorem rescue_returning (b : Nat) (w : World) (n : Nat) :
  CallsDIn Fence.wide n Tryz.prog 111 #[.pointer (some ⟨b, 0, none⟩)] .returning w fun e u' w' => e = .returned (.tuple #[]) ∧ u' = .returning ∧ w' = w := by
 refine callsDIn_of_wpSIn Tryz.func111 rfl trivial fun c₀ cs hu => ?_
 apply wpSIn_seq
 apply wpSIn_region
 simp [wpOpsSIn, go_sem, recoverD, hu, Tryz.ntmps111, Exit.thenS]
 simp only [List.size_toArray, List.length_cons, List.length_nil, Nat.reduceAdd, Nat.reduceSub, Array.replicate_succ, Array.replicate_zero, List.push_toArray, List.append_toArray, List.nil_append, List.cons_append, List.setIfInBounds_toArray, List.set_cons_zero, List.set_cons_succ]
 refine wpSIn_of_wpIn rfl ?_
 gi_wp2
 refine ⟨rfl, .returning, ?_, .tuple #[], by simp [results, Tryz.results111], rfl, rfl, rfl⟩
 cases c₀
 simp_all
abbrev resc (b : Nat) : Deferred := { target := .fn (.func 111) #[], args := #[.pointer (some ⟨b, 0, none⟩)] }
theorem leavesM_rescue {n : Nat} {fn : Func} {tmps : Array Value} {R : Ending → World → Prop} {b : Nat} {u : FrameMode} {w : World} (hu : u ≠ .run) {Q : Ending → FrameMode → World → Prop}
  (h : CallsDIn Fence.wide (n - 1) Tryz.prog 111 #[.pointer (some ⟨b, 0, none⟩)] u w Q)
  (hq : ∀ e u' w', Q e u' w' → (∃ v, e = .returned v) ∧ LeavesIn Fence.wide n Tryz.prog fn tmps R [] (settle u') w') : LeavesInM Fence.wide n Tryz.prog fn tmps R [resc b] u w := by
 refine ⟨hu, .inr ⟨fun hd => by simp [Fence.wide] at hd, .func 111, #[], 111, #[.pointer (some ⟨b, 0, none⟩)], rfl, ?_, fun _ _ => trivial, h.mono fun e u' w' hq' => ?_⟩⟩
 ·simp only [invoke]
  exact enters_of Tryz.func111 (by kernel_rfl) rfl _ _
 ·obtain ⟨⟨v, rfl⟩, h2⟩ := hq e u' w' hq'
  exact h2
theorem leaves_rescue_ret {n : Nat} {fn : Func} {tmps : Array Value} {R : Ending → World → Prop} {b : Nat} {w : World}
  (h : ∃ v, (results fn tmps).run Tryz.prog w = .ok v w ∧ R (.returned v) w) : LeavesInM Fence.wide n Tryz.prog fn tmps R [resc b] .returning w :=
 leavesM_rescue (by simp) (rescue_returning b w _) fun e u' w' ⟨h1, h2, h3⟩ => by
  subst h1 h2 h3
  exact ⟨⟨_, rfl⟩, h⟩
theorem leaves_rescue_fail {n : Nat} {fn : Func} {tmps : Array Value} {R : Ending → World → Prop} {b : Nat} {w : World} {er : Int} {v0 : Value} (hb : w.heap[b]? = some (.cells #[v0] 30 (0, 0)))
  (h : ∃ v, (results fn tmps).run Tryz.prog (w.setCell ⟨b, 0, none⟩ (.int .i64 er)) = .ok v (w.setCell ⟨b, 0, none⟩ (.int .i64 er)) ∧ R (.returned v) (w.setCell ⟨b, 0, none⟩ (.int .i64 er))) :
  LeavesInM Fence.wide n Tryz.prog fn tmps R [resc b] (.panicking [fail_ er false]) w :=
 leavesM_rescue (by simp) (rescue_panicking b v0 er w _ hb) fun e u' w' ⟨h1, h2, h3⟩ => by
  subst h1 h2 h3
  exact ⟨⟨_, rfl⟩, h⟩
def Tried (w : World) (r : Int × List (List Snd)) (be bo : Nat) (e : Ending) (w' : World) : Prop :=
 e = .returned (.tuple #[]) ∧ Keep (fun k => k = be ∨ k = bo) w w' ∧
  ((r.1 = 0 ∧ w'.heap[be]? = w.heap[be]? ∧ ∃ A n c x, r.2.getLast? = some x ∧ w'.heap[bo]? = some (.cells #[.slice A n c] 28 (0, 0)) ∧ IsWord w' A n c x ∧ ∀ ad, A = some ad → w.heap.size ≤ ad.block) ∨
   (r.1 ≠ 0 ∧ w'.heap[be]? = some (.cells #[.int .i64 r.1] 30 (0, 0)) ∧ w'.heap[bo]? = w.heap[bo]?))
theorem attempt1_c (A : Option Addr) (n c : Nat) (xs : List LawR) (Aw : Option Addr) (nw cw : Nat) (ws : List Snd) (w : World) (be bl bw bo : Nat) (v0 v1 : Value) (hx : IsLaws w A n c xs) (hw : IsWord w Aw nw cw ws) (hT : TabOK w) (hnw : nw ≤ 4096)
  (he : w.heap[be]? = some (.cells #[v0] 30 (0, 0))) (hl : w.heap[bl]? = some (.cells #[.slice A n c] 26 (0, 0))) (hbw : w.heap[bw]? = some (.cells #[.slice Aw nw cw] 28 (0, 0))) (ho : w.heap[bo]? = some (.cells #[v1] 28 (0, 0))) (hne : be ≠ bo) :
  Calls Tryz.prog 110 #[.pointer (some ⟨be, 0, none⟩), .pointer (some ⟨bl, 0, none⟩), .pointer (some ⟨bw, 0, none⟩), .pointer (some ⟨bo, 0, none⟩)] w (Tried w (formsM (lawsD xs) ws) be bo) := by
 have hc := cell_of_one hl
 have hc2 := cell_of_one hbw
 have hbe := lt_of_block he
 have hbo := lt_of_block ho
 have HC := hI (outcome_c A n c xs Aw nw cw ws w hx hw hT hnw)
 have HE := hI he; clear he
 have HO := hI ho; clear ho
 clear hx hw hT hl hbw
 obtain ⟨fs, hfs⟩ : ∃ fs, fs = formsM (lawsD xs) ws := ⟨_, rfl⟩
 rw [← hfs] at HC ⊢
 clear hfs
 refine (callsIn_wide (n := 9)).1 (callsIn_of_wp_marks Tryz.func110 rfl trivial ?_ rfl)
 simp only [Tryz.ntmps110, List.size_toArray, List.length_cons, List.length_nil, Nat.reduceAdd, Nat.reduceSub, Array.replicate_succ, Array.replicate_zero, List.push_toArray, List.append_toArray, List.nil_append, List.cons_append]
 gi_wp2
 refine ⟨trivial, ?_⟩
 refine (callsIn_wide.2 HC.out).mono ?_
 rintro e w1 ⟨hb1, ⟨h0, A1, n1, c1, x, hx, rfl, hw1, hf1⟩ | ⟨h0, rfl⟩⟩
 ·have o1 := (hb1.block _ hbo).trans HO.out
  have oc := cell_of_one o1
  have of := free_of_one o1
  have HW1 := hI hw1; clear hw1
  gi_wp2
  have sK := (keep_of_below (S := fun k => k = be ∨ k = bo) hb1).setCell (p := ⟨bo, 0, none⟩) (.inr rfl) (.slice A1 n1 c1)
  refine leaves_rescue_ret ⟨.tuple #[], by simp [results, Tryz.results110], rfl, sK, .inl ⟨h0, (Below.heap_setCell _ _ _ _ (by simpa using hne)).trans (hb1.block _ hbe), A1, n1, c1, x, hx, one_setCell o1, ?_, hf1⟩⟩
  exact HW1.out.keep (S := fun k => k = bo) ((Keep.refl (fun k => k = bo) w1).setCell (p := ⟨bo, 0, none⟩) rfl _) (fun _ ad had e => by have := hf1 ad had; omega)
 ·have o1 := (hb1.block _ hbe).trans HE.out
  have sK := (keep_of_below (S := fun k => k = be ∨ k = bo) hb1).setCell (p := ⟨be, 0, none⟩) (.inl rfl) (.int .i64 fs.1)
  exact leaves_rescue_fail o1 ⟨.tuple #[], by simp [results, Tryz.results110], rfl, sK, .inr ⟨h0, one_setCell o1, (Below.heap_setCell _ _ _ _ (by simpa using hne.symm)).trans (hb1.block _ hbo)⟩⟩
def RetAtt (w : World) (r : Int × List (List Snd)) (e : Ending) (w' : World) : Prop :=
 Below w.heap.size w w' ∧ ((r.1 = 0 ∧ ∃ A n c x, r.2.getLast? = some x ∧ e = .returned (.tuple #[.slice A n c, .bool true]) ∧ IsWord w' A n c x ∧ ∀ ad, A = some ad → w.heap.size ≤ ad.block) ∨
  (r.1 ≠ 0 ∧ e = .returned (.tuple #[.slice none 0 0, .bool false])))
theorem results_cell_word_bool {fn : Func} {p q : Tmp} (h : fn.results = #[.cell p 28, .tmp q]) (tmps : Array Value) (w : World) (b : Nat) (A : Option Addr) (n c : Nat) (v : Value) (hp : tmps.getD p undef = .pointer (some ⟨b, 0, none⟩)) (hq : tmps.getD q undef = v) (hr : w.cell? ⟨b, 0, none⟩ = some (.slice A n c)) :
  (results fn tmps).run Tryz.prog w = .ok (.tuple #[.slice A n c, v]) w := by
 have hp' : tmps[p]?.getD undef = .pointer (some ⟨b, 0, none⟩) := by simpa using hp
 have hq' : tmps[q]?.getD undef = v := by simpa using hq
 simp [results, h, hp', hq', asAddr, loadVar, go_sem, hr]
theorem attempt_c (A : Option Addr) (n c : Nat) (xs : List LawR) (Aw : Option Addr) (nw cw : Nat) (ws : List Snd) (w : World) (hx : IsLaws w A n c xs) (hw : IsWord w Aw nw cw ws) (hT : TabOK w) (hnw : nw ≤ 4096) :
  Calls Tryz.prog 66 #[.slice A n c, .slice Aw nw cw] w (RetAtt w (formsM (lawsD xs) ws)) := by
 have HX := hI hx; clear hx
 have HW := hI hw; clear hw
 have HT := hI hT; clear hT
 have hmf : ∀ (fn : Fn) (first cap : Array Value) (w : World), (Instr.makeFunc fn first cap).run Tryz.prog w = .ok (.func fn first cap) w := fun _ _ _ _ => rfl
 go_enter Tryz.func66, Tryz.ntmps66
 go_wp2_with fail
 have k0 : ((((w.alloc (.cells #[.slice A n c] 26)).alloc (.cells #[.slice Aw nw cw] 28)).alloc (.cells #[.slice none 0 0] 28)).alloc (.cells #[.int .i64 0] 30)).heap[w.heap.size]? = some (.cells #[.slice A n c] 26 (0, 0)) := hpt
 have k1 : ((((w.alloc (.cells #[.slice A n c] 26)).alloc (.cells #[.slice Aw nw cw] 28)).alloc (.cells #[.slice none 0 0] 28)).alloc (.cells #[.int .i64 0] 30)).heap[w.heap.size + 1]? = some (.cells #[.slice Aw nw cw] 28 (0, 0)) := hpt
 have k2 : ((((w.alloc (.cells #[.slice A n c] 26)).alloc (.cells #[.slice Aw nw cw] 28)).alloc (.cells #[.slice none 0 0] 28)).alloc (.cells #[.int .i64 0] 30)).heap[w.heap.size + 1 + 1]? = some (.cells #[.slice none 0 0] 28 (0, 0)) := hpt
 have k3 : ((((w.alloc (.cells #[.slice A n c] 26)).alloc (.cells #[.slice Aw nw cw] 28)).alloc (.cells #[.slice none 0 0] 28)).alloc (.cells #[.int .i64 0] 30)).heap[w.heap.size + 1 + 1 + 1]? = some (.cells #[.int .i64 0] 30 (0, 0)) := hpt
 have kB : Below w.heap.size w ((((w.alloc (.cells #[.slice A n c] 26)).alloc (.cells #[.slice Aw nw cw] 28)).alloc (.cells #[.slice none 0 0] 28)).alloc (.cells #[.int .i64 0] 30)) := bel
 generalize ((((w.alloc (.cells #[.slice A n c] 26)).alloc (.cells #[.slice Aw nw cw] 28)).alloc (.cells #[.slice none 0 0] 28)).alloc (.cells #[.int .i64 0] 30)) = V at *
 clear hmf
 refine (attempt1_c A n c xs Aw nw cw ws V _ _ _ _ _ _ (HX.out.below kB rr) (HW.out.below kB rr) (HT.out.below kB rr) hnw k3 k0 k1 k2 (by omega)).mono ?_
 have hV := lt_of_block k3
 have K2 := hI k2; clear k2
 have K3 := hI k3; clear k3
 have KB := hI kB; clear kB
 clear k0 k1
 obtain ⟨fs, hfs⟩ : ∃ fs, fs = formsM (lawsD xs) ws := ⟨_, rfl⟩
 rw [← hfs]
 have HFS := hI hfs; clear hfs
 rintro e V1 ⟨rfl, hK, ⟨h0, he, A1, n1, c1, x, hx, ho, hw1, hf1⟩ | ⟨h0, he, ho⟩⟩
 case inl =>
  have he' := he.trans K3.out
  have hB1 : Below w.heap.size w V1 := KB.out.trans (hK.to_below (fun k hk => by omega) KB.out.size)
  have c1' := cell_of_one he'
  have c2' := cell_of_one ho
  have f2' := free_of_one ho
  have HO := hI ho; clear ho
  have HW1 := hI hw1; clear hw1
  have HB1 := hI hB1; clear hB1 hK he he'
  go_wp2
  refine plain_region (fun W' => W'.cell? ⟨w.heap.size + 1 + 1, 0, none⟩ = some (.slice A1 n1 c1) ∧ W'.cell? ⟨w.heap.size + 1 + 1 + 1, 0, none⟩ = some (.int .i64 0)) (by kernel_rfl) ⟨c2', c1'⟩ (fun hHeld => ?_)
  (refine' anyT_tk 0 rfl ?_; (try simp only [Act.put, nY, nX])); (refine' anyT_tk 1 rfl ?_; (try simp only [Act.put, nY, nX])); (refine' anyT_tk 2 rfl ?_; (try simp only [Act.put, nY, nX]))
  (refine anyT_sp 3 rfl (fun K' hK' => ?_); simp only [nY]; go_simp)
  have u2 : (V1.setCell ⟨w.heap.size + 1 + 1, 0, none⟩ (.slice A1 n1 c1)).drew.heap[w.heap.size + 1 + 1]? = some (.cells #[.slice A1 n1 c1] 28 (0, 0)) := one_setCell HO.out
  have u1 : (V1.setCell ⟨w.heap.size + 1 + 1, 0, none⟩ (.slice A1 n1 c1)).drew.cell? ⟨w.heap.size + 1 + 1 + 1, 0, none⟩ = some (.int .i64 (0)) := (cell_set_block (by omega)).trans c1'
  have uB : Below w.heap.size w (V1.setCell ⟨w.heap.size + 1 + 1, 0, none⟩ (.slice A1 n1 c1)).drew := (HB1.out.setCell (p := ⟨w.heap.size + 1 + 1, 0, none⟩) (by simp; omega) _).drew
  have uw : IsWord (V1.setCell ⟨w.heap.size + 1 + 1, 0, none⟩ (.slice A1 n1 c1)).drew A1 n1 c1 x := HW1.out.keep (S := fun k => k = w.heap.size + 1 + 1) ((Keep.refl (fun k => k = w.heap.size + 1 + 1) V1).setCell (p := ⟨w.heap.size + 1 + 1, 0, none⟩) rfl _).drew (fun _ ad had e => by have := hf1 ad had; omega)
  generalize (V1.setCell ⟨w.heap.size + 1 + 1, 0, none⟩ (.slice A1 n1 c1)).drew = U at *
  refine hK' _ _ ⟨.inr ⟨cell_of_one u2, u1⟩, fun _ => ?_⟩
  clear hK' K' c1' c2' f2' hHeld
  (try simp only [Act.put, nY, nX])
  (refine anyT_sp 4 rfl (fun K' hK' => ?_); simp only [nY]; go_simp)
  refine hK' _ _ ⟨.inl (by kernel_rfl), fun _ => anyT_done (by kernel_rfl) ?_ _⟩
  clear hK' K' u1
  have U2 := hI u2; clear u2
  go_wp2
  refine bodyPost_ret (results_cell_word_bool Tryz.results66 _ _ (w.heap.size + 1 + 1) A1 n1 c1 (.bool true) rfl rfl (cell_of_one U2.out)) rfl ⟨uB, .inl ⟨by rw [← HFS.out]; exact h0, A1, n1, c1, x, by rw [← HFS.out]; exact hx, rfl, uw, fun ad had => ?_⟩⟩
  have := hf1 ad had
  omega
 case inr =>
  have ho' := ho.trans K2.out
  have hB1 : Below w.heap.size w V1 := KB.out.trans (hK.to_below (fun k hk => by omega) KB.out.size)
  have c1' := cell_of_one he
  have c2' := cell_of_one ho'
  have f2' := free_of_one ho'
  have HO := hI ho'; clear ho ho'
  have HB1 := hI hB1; clear hB1 hK he
  have h00 : (fs.1 == 0) = false := by simpa using h0
  go_wp2
  refine plain_region (fun W' => W'.cell? ⟨w.heap.size + 1 + 1, 0, none⟩ = some (.slice none 0 0) ∧ W'.cell? ⟨w.heap.size + 1 + 1 + 1, 0, none⟩ = some (.int .i64 fs.1)) (by kernel_rfl) ⟨c2', c1'⟩ (fun hHeld => ?_)
  (refine' anyT_tk 0 rfl ?_; (try simp only [Act.put, nY, nX])); (refine' anyT_tk 1 rfl ?_; (try simp only [Act.put, nY, nX])); (refine' anyT_tk 2 rfl ?_; (try simp only [Act.put, nY, nX]))
  (refine anyT_sp 3 rfl (fun K' hK' => ?_); simp only [nY]; go_simp)
  have u2 : (V1.setCell ⟨w.heap.size + 1 + 1, 0, none⟩ (.slice none 0 0)).drew.heap[w.heap.size + 1 + 1]? = some (.cells #[.slice none 0 0] 28 (0, 0)) := one_setCell HO.out
  have u1 : (V1.setCell ⟨w.heap.size + 1 + 1, 0, none⟩ (.slice none 0 0)).drew.cell? ⟨w.heap.size + 1 + 1 + 1, 0, none⟩ = some (.int .i64 (fs.1)) := (cell_set_block (by omega)).trans c1'
  have uB : Below w.heap.size w (V1.setCell ⟨w.heap.size + 1 + 1, 0, none⟩ (.slice none 0 0)).drew := (HB1.out.setCell (p := ⟨w.heap.size + 1 + 1, 0, none⟩) (by simp; omega) _).drew
  generalize (V1.setCell ⟨w.heap.size + 1 + 1, 0, none⟩ (.slice none 0 0)).drew = U at *
  refine hK' _ _ ⟨.inr ⟨cell_of_one u2, u1⟩, fun _ => ?_⟩
  clear hK' K' c1' c2' f2' hHeld
  (try simp only [Act.put, nY, nX])
  (refine anyT_sp 4 rfl (fun K' hK' => ?_); simp only [nY]; go_simp)
  refine hK' _ _ ⟨.inl (by kernel_rfl), fun _ => anyT_done (by kernel_rfl) ?_ _⟩
  clear hK' K' u1
  have U2 := hI u2; clear u2
  go_wp2
  exact bodyPost_ret (results_cell_word_bool Tryz.results66 _ _ (w.heap.size + 1 + 1) none 0 0 (.bool false) rfl rfl (cell_of_one U2.out)) rfl ⟨uB, .inr ⟨by rw [← HFS.out]; exact h0, rfl⟩⟩
def deriveM (ls : List LawD) (ws : List Snd) : Int × List Snd :=
 if chkM ls [ws] ≠ 0 then (chkM ls [ws], []) else if (formsM ls ws).1 ≠ 0 then (11, []) else (0, ((formsM ls ws).2.getLast?).getD [])
theorem one_words {w : World} {A : Option Addr} {n c : Nat} {xs : List Snd} (h : IsWord w A n c xs) (t : TypeId) : IsWords (w.alloc (.cells #[.slice A n c] t)) (some ⟨w.heap.size, 0, none⟩) 1 1 [xs] :=
 ⟨[(A, n, c, xs)], rfl, ⟨rfl, rr, by unfold maxLen; omega, (fun h => by cases h), fun _ => ⟨w.heap.size, 0, rfl, by simp, fun j v hv => by rw [Nat.zero_add]; exact cell_new_at (by simpa [Part.val] using hv)⟩⟩,
  fun p hp => by
   obtain rfl : p = (A, n, c, xs) := by simpa using hp
   exact h.below ((Below.refl w.heap.size w).alloc rr _) rr⟩
theorem chk_len {ls : List LawD} {ws : List Snd} (h : chkM ls [ws] = 0) : ws.length ≤ 32 := by
 unfold chkM at h
 by_cases h0 : lawsE ls ≠ 0
 ·rw [if_pos h0] at h; exact absurd h h0
 ·rw [if_neg h0, if_neg (by simp)] at h
  by_cases h1 : wcheck ws = 0
  ·unfold wcheck at h1
   rcases Nat.lt_or_ge 32 ws.length with h2 | h2
   ·rw [if_pos h2] at h1; exact absurd h1 (by decide)
   ·exact h2
  ·rw [firstE_snoc (k := 0) rfl rfl h1] at h; exact absurd h h1
theorem derive_c (A : Option Addr) (n c : Nat) (xs : List LawR) (Aw : Option Addr) (nw cw : Nat) (ws : List Snd) (w : World) (hx : IsLaws w A n c xs) (hw : IsWord w Aw nw cw ws) (hT : TabOK w) :
  Calls Tryz.prog 22 #[.slice A n c, .slice Aw nw cw] w (RetWE w (deriveM (lawsD xs) ws)) := by
 have HX := hI hx; clear hx
 have HW := hI hw; clear hw
 have HT := hI hT; clear hT
 have HWS := hI (one_words HW.out 28)
 go_enter Tryz.func22, Tryz.ntmps22
 go_wp2_with fail
 refine (dcheck_c A n c xs _ 1 1 [ws] _ (HX.out.below (B := w.heap.size) bel rr) HWS.out).mono ?_
 rintro e w1 ⟨rfl, hb1⟩
 have hB1 : Below w.heap.size w w1 := Below.step (by assumption) (by simp) bel
 have HB1 := hI hB1; clear hB1 hb1
 obtain ⟨er, her⟩ : ∃ er, er = chkM (lawsD xs) [ws] := ⟨_, rfl⟩
 rw [← her]
 have HER := hI her; clear her
 by_cases h0 : er = 0
 case neg =>
  have h1 : (er != 0) = true := by simpa using h0
  have HM : Hid (deriveM (lawsD xs) ws = (er, [])) := by show deriveM _ _ = _; unfold deriveM; rw [← HER.out, if_pos h0]
  clear h0
  go_wp2
  go_ret2
  exact ⟨none, 0, 0, by rw [HM.out]; rfl, by rw [HM.out]; exact Cells.nil _ _, HB1.out, fun ad h => by cases h⟩
 have h1 : (er != 0) = false := by simpa using h0
 have hlen : ws.length ≤ 32 := chk_len (by rw [← HER.out]; exact h0)
 have HM : Hid (deriveM (lawsD xs) ws = if (formsM (lawsD xs) ws).1 ≠ 0 then (11, []) else (0, ((formsM (lawsD xs) ws).2.getLast?).getD [])) := by show deriveM _ _ = _; unfold deriveM; rw [← HER.out, if_neg (by simpa using h0)]
 clear h0
 go_wp2_with fail
 have hB1s := HB1.out.size
 refine (attempt_c A n c xs Aw nw cw ws w1 (HX.out.below HB1.out rr) (HW.out.below HB1.out rr) (HT.out.below HB1.out rr) (by have := HW.out.len; omega)).mono ?_
 rintro e w2 ⟨hb2, ⟨h2, A2, n2, c2, x, hx, rfl, hw2, hf2⟩ | ⟨h2, rfl⟩⟩
 ·have HM' : Hid (deriveM (lawsD xs) ws = (0, x)) := by show deriveM _ _ = _; rw [HM.out, if_neg (by simpa using h2), hx]; rfl
  clear h2 hx
  go_wp2
  go_ret2
  exact ⟨A2, n2, c2, by rw [HM'.out]; rfl, by rw [HM'.out]; exact hw2, HB1.out.trans (hb2.mono hB1s), fun ad had => Nat.le_trans hB1s (hf2 ad had)⟩
 ·have HM' : Hid (deriveM (lawsD xs) ws = (11, [])) := by show deriveM _ _ = _; rw [HM.out, if_pos h2]
  clear h2
  go_wp2
  go_ret2
  exact ⟨none, 0, 0, by rw [HM'.out]; rfl, by rw [HM'.out]; exact Cells.nil _ _, HB1.out.trans (hb2.mono hB1s), fun ad h => by cases h⟩
structure CapW (B b5 b7 lr : Nat) (rc : LoopState → Option Code → Loop) (W1 : World) (vw : Value) (ps : List Part) (T : Nat → Prop) (st : LoopState) (W : World) : Prop where
 tw : T = fun k => k = b7 ∨ k = lr ∨ vw.ownBlock = some k
 lt : b5 < B ∧ b7 < B ∧ lr < B ∧ b5 ≠ b7 ∧ lr ≠ b7 ∧ lr ≠ b5
 c7 : W.heap[b7]? = some (.cells #[vw] 34 (0, 0))
 o7 : W.ownsRow B 28 1 vw ps.length (ps.map Part.val)
 pp : Parts W ps
 pd : ∀ p ∈ ps, ∀ ad, p.1 = some ad → B ≤ ad.block ∧ (0 < p.2.1 → ¬ vw.ownBlock = some ad.block)
 kp : Keep (fun k => k = b7 ∨ k = lr) W1 W
 bb : W1.heap.size = B
 lp : W.heap[lr]? = some (.loop (rc st none))
section fs
variable {B b5 b7 lr : Nat} {rc : LoopState → Option Code → Loop} {W1 : World} {vw : Value} {ps : List Part} {T : Nat → Prop} {st : LoopState} {W W' : World}
theorem CapW.lts (h : CapW B b5 b7 lr rc W1 vw ps T st W) : ∀ k, T k → k < W.heap.size := by
 intro k hk
 rw [h.tw] at hk
 rcases hk with rfl | rfl | hk
 ·exact lt_of_block h.c7
 ·exact lt_of_block h.lp
 ·exact (h.o7.lt k hk).2
theorem CapW.below (h : CapW B b5 b7 lr rc W1 vw ps T st W) (hb : Below W.heap.size W W') : CapW B b5 b7 lr rc W1 vw ps T st W' :=
 ⟨h.tw, h.lt, (hb.block _ (lt_of_block h.c7)).trans h.c7, own_heap h.o7 fun k e => hb.block k (h.o7.lt k e).2, fun p hp => (h.pp p hp).below hb rr, h.pd, h.kp.below hb rr, h.bb, (hb.block _ (lt_of_block h.lp)).trans h.lp⟩
theorem CapW.put (h : CapW B b5 b7 lr rc W1 vw ps T st W) (st' : LoopState) : CapW B b5 b7 lr rc W1 vw ps T st' (W.putObj lr (.loop (rc st' none))) := by
 obtain ⟨l5, l7, ll, d57, d7, d5⟩ := h.lt
 have ho : ∀ k, k ≠ lr → (W.putObj lr (.loop (rc st' none))).heap[k]? = W.heap[k]? := fun k hk => World.putObj_heap_other hk
 refine ⟨h.tw, h.lt, (ho _ d7.symm).trans h.c7, own_heap h.o7 fun k e => ho _ ?_, fun p hp => (h.pp p hp).keep (S := fun k => k = lr) ((Keep.refl (fun k => k = lr) W).putObj rfl _) fun hn ad had e => ?_, h.pd, h.kp.putObj (by simp) _, h.bb, World.putObj_heap_same (lt_of_block h.lp)⟩
 ·have := (h.o7.lt k e).1; omega
 ·have := (h.pd p hp ad had).1; omega
theorem CapW.push (h : CapW B b5 b7 lr rc W1 vw ps T st W) {w1 X2 : World} {A' : Option Addr} {n' c' : Nat} {x : List Snd} {vw' : Value} {t : TypeId} (hb1 : Below W.heap.size W w1) (hw1 : IsWord w1 A' n' c' x) (hf : ∀ ad, A' = some ad → W.heap.size ≤ ad.block)
  (hown : X2.ownsRow B 28 1 vw' (ps.length + 1) (ps.map Part.val ++ [.slice A' n' c'])) (hg : (w1.alloc (.cells #[.slice A' n' c'] t)).grownBy X2 vw.ownBlock) (hat : vw'.ownBlock = vw.ownBlock ∨ vw'.ownBlock = some (w1.alloc (.cells #[.slice A' n' c'] t)).heap.size) :
  ∃ T', CapW B b5 b7 lr rc W1 vw' (ps ++ [(A', n', c', x)]) T' st (X2.setCell ⟨b7, 0, none⟩ vw') ∧ Keep T W (X2.setCell ⟨b7, 0, none⟩ vw') ∧ ∀ k, T' k → T k ∨ W.heap.size ≤ k := by
 obtain ⟨l5, l7, ll, d57, d7, d5⟩ := h.lt
 have hbb := h.bb
 have hWs := h.kp.size
 have hb1s := hb1.size
 have hgs := hg.size
 simp only [World.size_alloc] at hgs
 have hlow : ∀ k, some k = vw.ownBlock → B ≤ k ∧ k < W.heap.size := fun k hk => h.o7.lt k hk.symm
 have hX2 : ∀ k, k < w1.heap.size → ¬ vw.ownBlock = some k → X2.heap[k]? = w1.heap[k]? := fun k hk hn => (hg.block k (by simp; omega) (fun e => hn e.symm)).trans (Below.heap_alloc _ _ _ hk)
 have hX3 : ∀ k, k ≠ b7 → (X2.setCell ⟨b7, 0, none⟩ vw').heap[k]? = X2.heap[k]? := fun k hk => Below.heap_setCell _ _ _ _ (by simpa using hk)
 have hK1 : Keep (fun k => vw.ownBlock = some k) w1 X2 := ((Keep.refl (fun k => vw.ownBlock = some k) w1).alloc _).grown hg (fun k e => .inl e)
 have hKX : Keep (fun k => vw.ownBlock = some k ∨ k = b7) w1 (X2.setCell ⟨b7, 0, none⟩ vw') := (hK1.mono fun k e => .inl e).setCell (p := ⟨b7, 0, none⟩) (.inr rfl) _
 have hKW : Keep (fun k => vw.ownBlock = some k ∨ k = b7) W (X2.setCell ⟨b7, 0, none⟩ vw') := (keep_of_below hb1).trans hKX
 have hn7 : vw.ownBlock ≠ some b7 := fun e => by have := hlow b7 e.symm; omega
 have hnl : vw.ownBlock ≠ some lr := fun e => by have := hlow lr e.symm; omega
 have ho' : ∀ k, vw'.ownBlock = some k → vw.ownBlock = some k ∨ w1.heap.size < k := by
  intro k hk
  rcases hat with e | e
  ·exact .inl (e ▸ hk)
  ·rw [e] at hk; injection hk with hk; simp at hk; exact .inr (by omega)
 have hwlt : ∀ p ∈ ps ++ [(A', n', c', x)], IsWord w1 p.1 p.2.1 p.2.2.1 p.2.2.2 ∧ ∀ ad, p.1 = some ad → B ≤ ad.block ∧ (0 < p.2.1 → ad.block < w1.heap.size ∧ ¬ vw.ownBlock = some ad.block) := by
  intro p hp
  have hwp : IsWord w1 p.1 p.2.1 p.2.2.1 p.2.2.2 ∧ ∀ ad, p.1 = some ad → B ≤ ad.block ∧ (0 < p.2.1 → ¬ vw.ownBlock = some ad.block) := by
   rcases List.mem_append.1 hp with hp | hp
   ·exact ⟨(h.pp p hp).below hb1 rr, h.pd p hp⟩
   ·obtain rfl : p = (A', n', c', x) := by simpa using hp
    exact ⟨hw1, fun ad had => ⟨by have := hf ad had; omega, fun _ e => by have := hlow _ e.symm; have := hf ad had; omega⟩⟩
  refine ⟨hwp.1, fun ad had => ⟨(hwp.2 ad had).1, fun hn => ⟨?_, (hwp.2 ad had).2 hn⟩⟩⟩
  obtain ⟨b, off, hb, hlt, _⟩ := hwp.1.2.2.2.2 hn
  rw [had] at hb
  injection hb with hb
  subst hb
  exact hlt
 have h7w1 : w1.heap[b7]? = some (.cells #[vw] 34 (0, 0)) := (hb1.block _ (lt_of_block h.c7)).trans h.c7
 have hlw1 : w1.heap[lr]? = some (.loop (rc st none)) := (hb1.block _ (lt_of_block h.lp)).trans h.lp
 refine ⟨fun k => k = b7 ∨ k = lr ∨ vw'.ownBlock = some k, ⟨rfl, h.lt, one_setCell ((hX2 _ (lt_of_block h7w1) hn7).trans h7w1), own_heap (w := X2) ?_ fun k e => hX3 k ?_, fun p hp => ?_, fun p hp ad had => ?_, ?_, h.bb, (hX3 _ d7).trans ((hX2 _ (lt_of_block hlw1) hnl).trans hlw1)⟩, hKW.mono fun k e => ?_, fun k hk => ?_⟩
 ·rw [List.length_append, List.length_singleton, List.map_append, List.map_singleton]; exact hown
 ·have := (hown.lt k e).1; omega
 ·refine (hwlt p hp).1.keep hKX fun hn ad had e => ?_
  have h1 := (hwlt p hp).2 ad had
  rcases e with e | e
  ·exact (h1.2 hn).2 e
  ·omega
 ·have h1 := (hwlt p hp).2 ad had
  refine ⟨h1.1, fun hn e => ?_⟩
  rcases ho' _ e with e | e
  ·exact (h1.2 hn).2 e
  ·have := (h1.2 hn).1; omega
 ·refine ((h.kp.mono (S' := fun k => (k = b7 ∨ k = lr) ∨ B ≤ k) (fun _ e => .inl e)).trans (hKW.mono (S' := fun k => (k = b7 ∨ k = lr) ∨ B ≤ k) fun k e => ?_)).old fun k hlt e => e.resolve_right (by omega)
  rcases e with e | e
  ·exact .inr (hlow k e.symm).1
  ·exact .inl (.inl e)
 ·rw [h.tw]
  rcases e with e | e
  ·exact .inr (.inr e)
  ·exact .inl e
 ·rw [h.tw]
  rcases hk with e | e | e
  ·exact .inl (.inl e)
  ·exact .inl (.inr (.inl e))
  ·rcases ho' k e with e | e
   ·exact .inl (.inr (.inr e))
   ·exact .inr (by omega)
end fs
end Go.Proofs.YtaglfmlgbcmakaaGreatDoor
namespace Go.Proofs.YtaglfmlgbcmakaaGreatDoor
open Go.RowKit Go.Shelf
attribute [local go_sem] Oper.semAt_some
theorem runM_short (l : LawD) (ws : List Snd) : ∀ (f : Nat) (r : RS), ∀ x ∈ (runM l ws f r).1, x.2.length ≤ 32
 | 0, _, x, h => by simp [runM] at h
 | f + 1, r, x, h => by
  rw [runM] at h
  split at h
  ·simp at h
  ·split at h
   ·exact runM_short l ws f _ x h
   ·split at h
    ·simp at h
    ·simp only [List.mem_cons] at h
     rcases h with rfl | h
     ·dsimp only; omega
     ·exact runM_short l ws f _ x h
theorem applyM_short {l : LawD} {ws : List Snd} (hw : ws.length ≤ 32) : (applyM l ws).2.length ≤ 32 := by
 unfold applyM
 split
 ·simp
 ·dsimp only
  cases h : (traceM l ws).2.getLast? with
  | none => exact hw
  | some x =>
   have hm := List.mem_of_getLast? h
   unfold traceM at hm
   split at hm
   ·simp at hm
   ·split at hm
    ·simp at hm
    ·exact runM_short l ws _ _ x hm
theorem lawsE_len {ls : List LawD} (h : lawsE ls = 0) : ls.length ≤ 64 := by
 unfold lawsE at h
 rcases Nat.lt_or_ge 64 ls.length with h1 | h1
 ·rw [if_pos h1] at h; exact absurd h (by decide)
 ·exact h1
theorem chk_laws {ls : List LawD} {wss : List (List Snd)} (h : chkM ls wss = 0) : lawsE ls = 0 := by
 unfold chkM at h
 by_cases h0 : lawsE ls = 0
 ·exact h0
 ·rw [if_pos h0] at h; exact absurd h h0
end Go.Proofs.YtaglfmlgbcmakaaGreatDoor
namespace Go.Proofs.YtaglfmlgbcmakaaGreatDoor
open Go.RowKit Go.Shelf
end Go.Proofs.YtaglfmlgbcmakaaGreatDoor

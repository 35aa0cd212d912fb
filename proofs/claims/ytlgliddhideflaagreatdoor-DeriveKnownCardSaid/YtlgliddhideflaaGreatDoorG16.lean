/-
  How often each law is used: what is counted, word by word.
  derive.Used.
-/
import Derived.Deep.OwnRows
import Derived.Test.YtlgliddhideflaaGreatDoorG14
import Derived.Test.YtlgliddhideflaaGreatDoorG33
set_option linter.all false
set_option maxRecDepth 100000
set_option maxHeartbeats 4000000
namespace Go.Proofs.YtlgliddhideflaaGreatDoor
open Go.RowKit Go.Shelf
def bumpK (fs : List (List Snd)) (i : Nat) (cnt : List Int) : List Int := cnt.mapIdx fun j c => if j + 1 < i ∧ fs[j]? ≠ fs[j + 1]? then c + 1 else c
theorem bumpK_len (fs : List (List Snd)) (i : Nat) (cnt : List Int) : (bumpK fs i cnt).length = cnt.length := by simp [bumpK]
theorem bumpK_get (fs : List (List Snd)) (i : Nat) (cnt : List Int) (j : Nat) : (bumpK fs i cnt)[j]? = (cnt[j]?).map fun c => if j + 1 < i ∧ fs[j]? ≠ fs[j + 1]? then c + 1 else c := by simp [bumpK]
theorem bumpK_01 (fs : List (List Snd)) (i : Nat) (hi : i ≤ 1) (cnt : List Int) : bumpK fs i cnt = cnt := by
 apply List.ext_getElem?
 intro j
 rw [bumpK_get]
 cases cnt[j]? with
 | none => rfl
 | some c => rw [Option.map_some, if_neg (by omega)]
theorem bumpK_same {fs : List (List Snd)} {j : Nat} {cnt : List Int} (h : fs[j]? = fs[j + 1]?) : bumpK fs (j + 2) cnt = bumpK fs (j + 1) cnt := by
 apply List.ext_getElem?
 intro k
 rw [bumpK_get, bumpK_get]
 cases cnt[k]? with
 | none => rfl
 | some c =>
  rw [Option.map_some, Option.map_some]
  by_cases hk : k = j
  ·subst hk; rw [if_neg (by simp [h]), if_neg (by omega)]
  ·by_cases hc : k + 1 < j + 1 ∧ fs[k]? ≠ fs[k + 1]?
   ·rw [if_pos ⟨by omega, hc.2⟩, if_pos hc]
   ·rw [if_neg (fun h => hc ⟨by omega, h.2⟩), if_neg hc]
theorem bumpK_set {fs : List (List Snd)} {j : Nat} {cnt : List Int} {x : Int} (h : fs[j]? ≠ fs[j + 1]?) (hx : (bumpK fs (j + 1) cnt)[j]? = some x) : (bumpK fs (j + 1) cnt).set j (x + 1) = bumpK fs (j + 2) cnt := by
 apply List.ext_getElem?
 intro k
 rw [List.getElem?_set]
 by_cases hk : j = k
 ·subst hk
  have hl := (List.getElem?_eq_some_iff.1 hx).1
  rw [if_pos rfl, if_pos hl]
  rw [bumpK_get] at hx ⊢
  cases hc : cnt[j]? with
  | none => rw [hc] at hx; cases hx
  | some c =>
   rw [hc, Option.map_some, if_neg (by omega)] at hx
   rw [Option.map_some, if_pos ⟨by omega, h⟩]
   obtain rfl : c = x := by simpa using hx
   rfl
 ·rw [if_neg hk, bumpK_get, bumpK_get]
  cases cnt[k]? with
  | none => rfl
  | some c =>
   rw [Option.map_some, Option.map_some]
   by_cases hc : k + 1 < j + 1 ∧ fs[k]? ≠ fs[k + 1]?
   ·rw [if_pos hc, if_pos ⟨by omega, hc.2⟩]
   ·rw [if_neg hc, if_neg (fun h => hc ⟨by omega, h.2⟩)]
theorem bumpK_bound {fs : List (List Snd)} {i : Nat} {cnt : List Int} {m : Int} (h : ∀ c ∈ cnt, 0 ≤ c ∧ c ≤ m) : ∀ c ∈ bumpK fs i cnt, 0 ≤ c ∧ c ≤ m + 1 := by
 intro c hc
 obtain ⟨j, hj⟩ := List.getElem?_of_mem hc
 rw [bumpK_get] at hj
 cases hcj : cnt[j]? with
 | none => rw [hcj] at hj; cases hj
 | some d =>
  rw [hcj, Option.map_some] at hj
  have := h d (List.mem_of_getElem? hcj)
  split at hj <;> (injection hj with hj; omega)
def usedGo (ls : List LawD) : List (List Snd) → List Int → Int × List Int
 | [], cnt => (0, cnt)
 | ws :: r, cnt => if (formsM ls ws).1 ≠ 0 then ((formsM ls ws).1, []) else usedGo ls r (bumpK (formsM ls ws).2 (formsM ls ws).2.length cnt)
def usedM (ls : List LawD) (wss : List (List Snd)) : Int × List Int :=
 if chkM ls wss ≠ 0 then (chkM ls wss, []) else usedGo ls wss (List.replicate ls.length 0)
theorem usedGo_step {ls : List LawD} {wss : List (List Snd)} {k : Nat} {ws : List Snd} {cnt : List Int} (h : wss[k]? = some ws) (h0 : (formsM ls ws).1 = 0) :
  usedGo ls (wss.drop k) cnt = usedGo ls (wss.drop (k + 1)) (bumpK (formsM ls ws).2 (formsM ls ws).2.length cnt) := by
 obtain ⟨hk, hk'⟩ := List.getElem?_eq_some_iff.1 h
 rw [List.drop_eq_getElem_cons hk, hk', usedGo, if_neg (by simpa using h0)]
theorem usedGo_fail {ls : List LawD} {wss : List (List Snd)} {k : Nat} {ws : List Snd} {cnt : List Int} (h : wss[k]? = some ws) (h0 : (formsM ls ws).1 ≠ 0) :
  usedGo ls (wss.drop k) cnt = ((formsM ls ws).1, []) := by
 obtain ⟨hk, hk'⟩ := List.getElem?_eq_some_iff.1 h
 rw [List.drop_eq_getElem_cons hk, hk', usedGo, if_pos h0]
abbrev cntC (cnt : List Int) : Array Value := (cnt.map (Value.int .i64)).toArray
theorem made_cnt (n : Nat) : madeCells #[Value.int .i64 0] n = cntC (List.replicate n 0) := by
 apply Array.ext
 ·simp [size_madeCells]
 ·intro i h1 h2
  simp [madeCells, Nat.mod_one]
theorem cntC_set (cnt : List Int) (j : Nat) (x : Int) : (cntC cnt).setIfInBounds j (.int .i64 x) = cntC (cnt.set j x) := by simp [cntC, List.map_set]
theorem cntC_get {w : World} {g j : Nat} {cnt : List Int} {x : Int} {t : TypeId} (h : w.heap[g]? = some (.cells (cntC cnt) t (0, 0))) (hx : cnt[j]? = some x) : w.cell? ⟨g, j, none⟩ = some (.int .i64 x) :=
 cell_at_heap h (by simp [hx])
theorem chk_words {ls : List LawD} {wss : List (List Snd)} (h : chkM ls wss = 0) : lawsE ls = 0 ∧ wss.length ≤ 256 ∧ ∀ ws ∈ wss, ws.length ≤ 32 := by
 have h0 := chk_laws h
 unfold chkM at h
 rw [if_neg (by simpa using h0)] at h
 by_cases h2 : 256 < wss.length
 ·rw [if_pos h2] at h; exact absurd h (by decide)
 ·rw [if_neg h2] at h
  refine ⟨h0, by omega, fun ws hws => ?_⟩
  have hall : wss.all (fun x => wcheck x == 0) = true := by
   rw [List.all_eq_true]
   intro x hx
   unfold firstE at h
   cases hf : (wss.map wcheck).find? (· != 0) with
   | none =>
    have := List.find?_eq_none.1 hf (wcheck x) (List.mem_map.2 ⟨x, hx, rfl⟩)
    simpa using this
   | some e =>
    rw [hf] at h
    have := List.find?_some hf
    dsimp only [Option.getD_some] at h
    simp [h] at this
  have := List.all_eq_true.1 hall ws hws
  have hw : wcheck ws = 0 := by simpa using this
  unfold wcheck at hw
  rcases Nat.lt_or_ge 32 ws.length with h3 | h3
  ·rw [if_pos h3] at hw; exact absurd hw (by decide)
  ·exact h3
end Go.Proofs.YtlgliddhideflaaGreatDoor
namespace Go.Proofs.YtlgliddhideflaaGreatDoor
open Go.RowKit Go.Shelf
attribute [local go_sem] Oper.semAt_some
def RetNsE (w : World) (r : Int × List Int) (e : Ending) (w' : World) : Prop :=
 ∃ A n c, e = .returned (.tuple #[.slice A n c, .int .i64 r.1]) ∧ IsInts w' A n c r.2 ∧ Below w.heap.size w w'
theorem ints_row {w : World} {g n : Nat} {cnt : List Int} {t : TypeId} (h : w.heap[g]? = some (.cells (cntC cnt) t (0, 0))) (hl : cnt.length = n) (hn : n ≤ maxLen) : IsInts w (some ⟨g, 0, none⟩) n n cnt :=
 ⟨by simpa using hl, rr, hn, (fun h => by cases h), fun _ => ⟨g, 0, rfl, lt_of_block h, fun j v hv => by rw [Nat.zero_add]; exact cell_at_heap h (by simpa using hv)⟩⟩
theorem used_c (A : Option Addr) (n c : Nat) (xs : List LawR) (A' : Option Addr) (n' c' : Nat) (wss : List (List Snd)) (w : World) (hx : IsLaws w A n c xs) (hw : IsWords w A' n' c' wss) (hT : TabOK w) :
  Calls Tryz.prog 25 #[.slice A n c, .slice A' n' c'] w (RetNsE w (usedM (lawsD xs) wss)) := by
 have hmx := hx.max
 have hmw := hw.max
 have HX := hI hx; clear hx
 have HW := hI hw; clear hw
 have HT := hI hT; clear hT
 refine (callsIn_wide (n := 9)).1 (callsIn_of_wp_marks Tryz.func25 rfl trivial ?_ rfl)
 simp only [Tryz.ntmps25, List.size_toArray, List.length_cons, List.length_nil, Nat.reduceAdd, Nat.reduceSub, Array.replicate_succ, Array.replicate_zero, List.push_toArray, List.append_toArray, List.nil_append, List.cons_append]
 gi_wp2
 have k5 : (w.alloc (.cells #[.int .i64 0] 37)).heap[w.heap.size]? = some (.cells #[.int .i64 0] 37 (0, 0)) := hpt
 have kB : Below w.heap.size w (w.alloc (.cells #[.int .i64 0] 37)) := bel
 generalize (w.alloc (.cells #[.int .i64 0] 37)) = V0 at *
 refine ⟨trivial, ?_⟩
 refine (callsIn_wide.2 (dcheck_c A n c xs A' n' c' wss V0 (HX.out.below kB rr) (HW.out.below kB rr))).mono ?_
 rintro e w1 ⟨rfl, hb1⟩
 have h5 := (hb1.block _ (lt_of_block k5)).trans k5
 have hB1 : Below w.heap.size w w1 := kB.trans (hb1.mono kB.size)
 clear hb1 k5 kB
 obtain ⟨b5, e5⟩ : ∃ b5, b5 = w.heap.size := ⟨_, rfl⟩
 rw [← e5]
 rw [← e5] at h5
 have e5' := Nat.le_of_eq e5.symm
 have HE5 := hI e5; clear e5
 have l5 := lt_of_block h5
 have c5 := cell_of_one h5
 have f5 := free_of_one h5
 have H5 := hI h5; clear h5
 have HB1 := hI hB1; clear hB1
 obtain ⟨er, her⟩ : ∃ er, er = chkM (lawsD xs) wss := ⟨_, rfl⟩
 rw [← her]
 have HER := hI her; clear her
 by_cases h0 : er = 0
 case neg =>
  have h1 : (er != 0) = true := by simpa using h0
  have HM : Hid (usedM (lawsD xs) wss = (er, [])) := by show usedM _ _ = _; unfold usedM; rw [← HER.out, if_pos h0]
  clear h0
  gi_wp2
  have x5 := one_setCell (u := .int .i64 er) H5.out
  have xB : Below w.heap.size w (w1.setCell ⟨b5, 0, none⟩ (.int .i64 er)) := HB1.out.setCell (p := ⟨b5, 0, none⟩) (by simp; omega) _
  refine post_ret (B := w.heap.size) (by exact trivial) fun w' hw' => ⟨_, results_tmp_errno Tryz.results25 _ _ b5 (.slice none 0 0) er rfl rfl (cell_of_one (hw'.row x5)), none, 0, 0, by rw [HM.out], by rw [HM.out]; exact Cells.nil _ _, xB.trans hw'.below⟩
 have h1 : (er != 0) = false := by simpa using h0
 have hcw := chk_words (ls := lawsD xs) (wss := wss) (by rw [← HER.out]; exact h0)
 have hl64 := lawsE_len hcw.1
 rw [List.length_map, HX.out.len] at hl64
 have hw256 := hcw.2.1
 rw [HW.out.len] at hw256
 have HCW := hI hcw.2.2; clear hcw
 have HM : Hid (usedM (lawsD xs) wss = usedGo (lawsD xs) wss (List.replicate n 0)) := by show usedM _ _ = _; unfold usedM; rw [← HER.out, if_neg (by simpa using h0), List.length_map, HX.out.len]
 clear h0 c5 f5
 have hmk := fun w => run_make_row' (P := Tryz.prog) 43 3 (.int .i64 0) 8 Tryz.underlying43 int_info rfl .i64 .i64 n (by omega) (by omega) w
 gi_wp2
 clear hmk
 rw [made_cnt]
 have kg : ((w1.alloc (.cells (cntC (List.replicate n 0)) 3)).alloc (.cells #[.slice (some ⟨w1.heap.size, 0, none⟩) n n] 43)).heap[w1.heap.size]? = some (.cells (cntC (List.replicate n 0)) 3 (0, 0)) := hpt
 have k7 : ((w1.alloc (.cells (cntC (List.replicate n 0)) 3)).alloc (.cells #[.slice (some ⟨w1.heap.size, 0, none⟩) n n] 43)).heap[w1.heap.size + 1]? = some (.cells #[.slice (some ⟨w1.heap.size, 0, none⟩) n n] 43 (0, 0)) := hpt
 have k5 : ((w1.alloc (.cells (cntC (List.replicate n 0)) 3)).alloc (.cells #[.slice (some ⟨w1.heap.size, 0, none⟩) n n] 43)).heap[b5]? = some (.cells #[.int .i64 0] 37 (0, 0)) := by repeat (first | exact H5.out | rw [heap_old_at sd])
 have kB : Below w.heap.size w ((w1.alloc (.cells (cntC (List.replicate n 0)) 3)).alloc (.cells #[.slice (some ⟨w1.heap.size, 0, none⟩) n n] 43)) := (HB1.out.alloc HB1.out.size _).alloc (by have := HB1.out.size; simp; omega) _
 generalize ((w1.alloc (.cells (cntC (List.replicate n 0)) 3)).alloc (.cells #[.slice (some ⟨w1.heap.size, 0, none⟩) n n] 43)) = V1 at *
 have e7 : w1.heap.size + 1 < V1.heap.size := lt_of_block k7
 obtain ⟨g, eg⟩ : ∃ g, g = w1.heap.size := ⟨_, rfl⟩
 rw [← eg] at kg k7 e7 ⊢
 have l5g : b5 < g := by omega
 clear eg
 obtain ⟨b7, e7'⟩ : ∃ b7, b7 = g + 1 := ⟨_, rfl⟩
 rw [← e7'] at k7 e7 ⊢
 have lg7 : g < b7 := by omega
 clear e7'
 have hnm : n ≤ maxLen := by unfold maxLen; omega
 refine wpIn_loop (fun a' wr => ∃ (k : Nat) (cnt : List Int) (ms : List Deferred) (u2 u3 u6 u8 u9 u10 u11 u12 u13 u14 u15 u16 u17 u18 u19 u20 u21 u25 u26 u27 u28 u29 u30 u31 u32 u33 u34 u35 u36 u37 u38 u39 u40 u41 u42 u43 u44 u45 u46 u47 u48 u49 u50 : Value),
   a' = { tmps := #[.slice A n c, .slice A' n' c', u2, u3, .slice none 0 0, .pointer (some ⟨b5, 0, none⟩), u6, .pointer (some ⟨b7, 0, none⟩), u8, u9, u10, u11, u12, u13, u14, u15, u16, u17, u18, u19, u20, u21, .slice A' n' c', .int .i64 n', .int .i64 k, u25, u26, u27, u28, u29, u30, u31, u32, u33, u34, u35, u36, u37, u38, u39, u40, u41, u42, u43, u44, u45, u46, u47, u48, u49, u50], defers := ms ++ [resc b5] } ∧
   k ≤ n' ∧ Hid (Marks w.heap.size wr ms) ∧ Hid (wr.heap[b7]? = some (.cells #[.slice (some ⟨g, 0, none⟩) n n] 43 (0, 0))) ∧ Hid (wr.heap[g]? = some (.cells (cntC cnt) 3 (0, 0))) ∧ Hid (wr.heap[b5]? = some (.cells #[.int .i64 0] 37 (0, 0))) ∧
   Hid (cnt.length = n ∧ (∀ c ∈ cnt, 0 ≤ c ∧ c ≤ (k : Int)) ∧ usedM (lawsD xs) wss = usedGo (lawsD xs) (wss.drop k) cnt) ∧ Below w.heap.size w wr)
  (fun a' _ => n' - (intOf (a'.tmps.getD 24 undef)).toNat) ?start ?round
 case start =>
  refine ⟨0, List.replicate n 0, [], _, _, _, _, _, _, _, _, _, _, _, _, _, _, _, _, _, _, _, _, _, _, _, _, _, _, _, _, _, _, _, _, _, _, _, _, _, _, _, _, _, _, _, rfl, Nat.zero_le _, trivial, k7, kg, k5, ⟨by simp, fun c hc => ?_, HM.out⟩, kB⟩
  have := List.eq_of_mem_replicate hc
  omega
 case round =>
  clear kg k7 k5 kB
  rintro _ wr ⟨k, cnt, ms, u2, u3, u6, u8, u9, u10, u11, u12, u13, u14, u15, u16, u17, u18, u19, u20, u21, u25, u26, u27, u28, u29, u30, u31, u32, u33, u34, u35, u36, u37, u38, u39, u40, u41, u42, u43, u44, u45, u46, u47, u48, u49, u50, rfl, hk, HMk, H7, HG, H5r, HC, hB⟩
  have hBs := hB.size
  have lr7 := lt_of_block H7.out
  by_cases hlt : k < n'
  ·obtain ⟨b, off, A1, n1, c1, ws, rfl, hb, hcw0, hwk, hws⟩ := HW.out.at_ hlt
   have hcw := (hB.cell (p := ⟨b, off + k, none⟩) hb).trans hcw0
   clear hcw0
   have HWK := hI hwk; clear hwk
   have HWS := hI hws; clear hws
   have hn1 : n1 ≤ 32 := by have h1 := HCW.out ws (List.mem_of_getElem? HWK.out); have h2 := HWS.out.len; omega
   gi_wp2
   have k10 : (wr.alloc (.cells #[.slice none 0 0] 32)).heap[wr.heap.size]? = some (.cells #[.slice none 0 0] 32 (0, 0)) := heap_new_at rfl
   have kB : Below wr.heap.size wr (wr.alloc (.cells #[.slice none 0 0] 32)) := bel
   clear hcw
   generalize (wr.alloc (.cells #[.slice none 0 0] 32)) = V2 at *
   refine ⟨trivial, ?_⟩
   refine (callsIn_wide.2 (forms_c _ n c A1 n1 c1 V2)).mono ?_
   rintro e w2 ⟨bw, bl, rfl, r1, r2, s1, s2, hb2⟩
   have h10 := hI ((hb2.block _ (lt_of_block k10)).trans k10)
   have l10 := lt_of_block k10
   have lb1 := lt_of_block r1
   have lb2 := lt_of_block r2
   have R1 := hI r1; clear r1
   have R2 := hI r2; clear r2
   have hBr := hI (kB.trans (hb2.mono kB.size))
   clear hb2 k10 kB
   gi_wp2
   obtain ⟨b10, e10⟩ : ∃ b10, b10 = wr.heap.size := ⟨_, rfl⟩
   rw [← e10]
   rw [← e10] at h10 l10
   have e10' := Nat.le_of_eq e10
   have e10'' := Nat.le_of_eq e10.symm
   clear e10
   have lb7 : b7 < b10 := by omega
   refine wide_range (gf := 150) (lb := #[.pointer (some ⟨bw, 0, none⟩), .pointer (some ⟨bl, 0, none⟩)]) rfl (enters_of Tryz.func150 (by kernel_rfl) rfl) fun fn D lr rc W1 hrc hD hlr hK2 hD1 hl1 hs2 => ?_
   have HRC := hI hrc; clear hrc
   have hDl : D < lr := by omega
   have hlW : lr < W1.heap.size := by omega
   have hD2 : w2.heap.size ≤ D := by omega
   clear hs2 hD hlr
   have HD1 := hI hD1; clear hD1
   have hKr : Hid (Keep (fun _ => False) wr W1) := (keep_of_below hBr.out).trans hK2
   have hBW1 := hI (hB.trans (hKr.out.to_below (B := wr.heap.size) (fun k hk => hk.elim) rr |>.mono hBs))
   obtain ⟨fs, hfs⟩ : ∃ fs, fs = formsM (lawsD xs) ws := ⟨_, rfl⟩
   have hfl : fs.2.length ≤ n + 1 := by rw [hfs]; have h1 := formsM_len (lawsD xs) ws; rw [List.length_map, HX.out.len] at h1; exact h1
   have HFS := hI hfs; clear hfs
   obtain ⟨J, hJ⟩ : ∃ J : Nat → (Nat → Prop) → World → Prop, J = fun i T W => T = (fun k => k = g ∨ k = b10 ∨ k = lr) ∧ Keep (fun k => k = g ∨ k = b10 ∨ k = lr) W1 W ∧ W.heap[g]? = some (.cells (cntC (bumpK fs.2 i cnt)) 3 (0, 0)) ∧ W.heap[lr]? = some (.loop (rc .ready none)) ∧
     ∃ A4 n4 c4, W.heap[b10]? = some (.cells #[.slice A4 n4 c4] 32 (0, 0)) ∧ ∀ j, i = j + 1 → ∃ x, fs.2[j]? = some x ∧ IsWord W A4 n4 c4 x ∧ ∀ ad, A4 = some ad → W1.heap.size ≤ ad.block := ⟨_, rfl⟩
   have HJ := hI hJ; clear hJ
   have h10W1 : W1.heap[b10]? = some (.cells #[.slice none 0 0] 32 (0, 0)) := (hK2.block _ (by omega) (by simp)).trans h10.out
   have hgW1 : W1.heap[g]? = some (.cells (cntC cnt) 3 (0, 0)) := (hKr.out.block _ (by omega) (by simp)).trans HG.out
   have H7W1 : Hid (W1.heap[b7]? = some (.cells #[.slice (some ⟨g, 0, none⟩) n n] 43 (0, 0))) := (hKr.out.block _ (by omega) (by simp)).trans H7.out
   have H5W1 : Hid (W1.heap[b5]? = some (.cells #[.int .i64 0] 37 (0, 0))) := (hKr.out.block _ (by omega) (by simp)).trans H5r.out
   refine (forms1_iter (9 - 1) lr bw bl (by omega) A n c xs A1 n1 c1 ws W1 J (fun k => k = g ∨ k = b10 ∨ k = lr) W1.heap.size ?hu ?h0 (by omega)).mono ?_
   case h0 =>
    rw [HJ.out]
    exact ⟨rfl, Keep.refl _ _, by rw [bumpK_01 _ _ (by omega)]; exact hgW1, hl1, none, 0, 0, h10W1, fun j hj => by omega⟩
   case hu =>
    refine ⟨?hB, ?hlt, ?hst, ?hrd, ?hy⟩
    case hB =>
     intro i T W hx
     rw [HJ.out] at hx
     exact hx.2.1.size
    case hlt =>
     intro i T W hx k hk
     rw [HJ.out] at hx
     obtain ⟨rfl, h2, h3, h4, A4, n4, c4, h5, _⟩ := hx
     rcases hk with rfl | rfl | rfl
     ·exact lt_of_block h3
     ·exact lt_of_block h5
     ·exact lt_of_block h4
    case hst =>
     intro i T W W' hx hb
     rw [HJ.out] at hx ⊢
     obtain ⟨rfl, h2, h3, h4, A4, n4, c4, h5, h6⟩ := hx
     refine ⟨rfl, h2.below hb rr, (hb.block _ (lt_of_block h3)).trans h3, (hb.block _ (lt_of_block h4)).trans h4, A4, n4, c4, (hb.block _ (lt_of_block h5)).trans h5, fun j hj => ?_⟩
     obtain ⟨x, h7, h8, h9⟩ := h6 j hj
     exact ⟨x, h7, h8.below hb rr, h9⟩
    case hrd =>
     intro i T W hx
     rw [HJ.out] at hx
     obtain ⟨rfl, h2, h3, h4, A4, n4, c4, h5, h6⟩ := hx
     have hBW : Below w.heap.size w W := hBW1.out.trans (h2.to_below (fun k hk => by omega) hBW1.out.size)
     exact ⟨(h2.block _ (by omega) (by omega)).trans ((hK2.block _ lb1 (by simp)).trans R1.out), (h2.block _ (by omega) (by omega)).trans ((hK2.block _ lb2 (by simp)).trans R2.out), HX.out.below hBW rr,
      HWS.out.below hBW rr, HT.out.below hBW rr⟩
    case hy =>
     intro i T W A2 n2 c2 x hfx hwd hfr hx
     rw [HJ.out] at hx
     obtain ⟨rfl, h2, h3, h4, A4, n4, c4, h5, h6⟩ := hx
     refine wide_round HRC.out h4 rfl ?_
     have H2 := hI h2; clear h2
     have H3 := hI h3; clear h3
     have H4 := hI h4; clear h4
     have H5 := hI h5; clear h5
     have H6 := hI h6; clear h6
     have hil : i < fs.2.length := by rw [HFS.out]; exact (List.getElem?_eq_some_iff.1 hfx).1
     have HFX : Hid (fs.2[i]? = some x) := by show fs.2[i]? = _; rw [HFS.out]; exact hfx
     clear hfx
     have HWD := hI hwd; clear hwd
     have HFR := hI hfr; clear hfr
     gi_wp2
     refine ⟨H4.out, ?_⟩
     have xo : ∀ k, k ≠ lr → (W.putObj lr (.loop (rc .busy none))).heap[k]? = W.heap[k]? := fun k hk => World.putObj_heap_other hk
     have x4 : (W.putObj lr (.loop (rc .busy none))).heap[lr]? = some (.loop (rc .busy none)) := World.putObj_heap_same (lt_of_block H4.out)
     have x3 := (xo g (by omega)).trans H3.out
     have x5 := (xo b10 (by omega)).trans H5.out
     have x7 := (xo b7 (by omega)).trans ((H2.out.block b7 (by omega) (by omega)).trans H7W1.out)
     have xK : Keep (fun k => k = g ∨ k = b10 ∨ k = lr) W (W.putObj lr (.loop (rc .busy none))) := (Keep.refl (fun k => k = g ∨ k = b10 ∨ k = lr) W).putObj (by simp) _
     clear xo
     generalize W.putObj lr (.loop (rc .busy none)) = V at *
     have c7 := cell_of_one x7
     have c10 := cell_of_one x5
     have f10 := free_of_one x5
     have X3 := hI x3; clear x3
     have X4 := hI x4; clear x4
     have X5 := hI x5; clear x5
     have X7 := hI x7; clear x7
     have XK := hI xK; clear xK
     have HEND : Hid (∀ U : World, U.heap[lr]? = some (.loop (rc .busy none)) → U.heap[b10]? = some (.cells #[.slice A2 n2 c2] 32 (0, 0)) → U.heap[g]? = some (.cells (cntC (bumpK fs.2 (i + 1) cnt)) 3 (0, 0)) → Keep (fun k => k = g ∨ k = b10 ∨ k = lr) W U →
       ∃ T', J (i + 1) T' (U.putObj lr (.loop (rc .ready none))) ∧ Keep (fun k => k = g ∨ k = b10 ∨ k = lr) W (U.putObj lr (.loop (rc .ready none))) ∧ ∀ k, T' k → (k = g ∨ k = b10 ∨ k = lr) ∨ W.heap.size ≤ k) := by
      intro U u1 u2 u3 u4
      have uK := u4.putObj (l := lr) (by simp) (.loop (rc .ready none))
      refine ⟨fun k => k = g ∨ k = b10 ∨ k = lr, ?_, uK, fun k hk => .inl hk⟩
      rw [HJ.out]
      refine ⟨rfl, H2.out.trans uK, (World.putObj_heap_other (by omega)).trans u3, World.putObj_heap_same (lt_of_block u1), A2, n2, c2, (World.putObj_heap_other (by omega)).trans u2, fun j hj => ?_⟩
      obtain rfl : i = j := by omega
      exact ⟨x, HFX.out, HWD.out.keep uK (fun hn ad had hT => (HFR.out ad had).2 hT), fun ad had => (HFR.out ad had).1⟩
     by_cases hi0 : i = 0
     ·subst hi0
      gi_wp2
      refine ⟨trivial, ?_⟩
      gi_wp2
      have u1 := (Below.heap_setCell V ⟨b10, 0, none⟩ (.slice A2 n2 c2) lr (by simp; omega)).trans X4.out
      refine ⟨u1, rfl, HEND.out _ u1 (one_setCell X5.out) ?_ (XK.out.setCell (p := ⟨b10, 0, none⟩) (by simp) _)⟩
      rw [bumpK_01 _ _ (by omega)]
      have := X3.out
      rw [bumpK_01 _ _ (by omega)] at this
      exact (Below.heap_setCell V ⟨b10, 0, none⟩ (.slice A2 n2 c2) g (by simp; omega)).trans this
     ·obtain ⟨j, rfl⟩ : ∃ j, i = j + 1 := ⟨i - 1, by omega⟩
      clear hi0
      obtain ⟨x0, q1, q2, q3⟩ := H6.out j rfl
      have q2' : IsWord V A4 n4 c4 x0 := q2.keep XK.out (fun hn ad had e => by have := q3 ad had; omega)
      have hw2' : IsWord V A2 n2 c2 x := HWD.out.keep XK.out (fun hn ad had e => (HFR.out ad had).2 e)
      have Q1 := hI q1; clear q1
      have Q2 := hI q2'; clear q2 q2' q3
      have HW2 := hI hw2'; clear hw2'
      rw [show ((j + 1 : Nat) : Int) = (j : Int) + 1 by omega]
      gi_wp2
      refine ⟨trivial, rfl, ?_⟩
      refine (CallsIn.inRound lr (callsIn_wide.2 (wEqual_c A4 A2 n4 n2 c4 c2 x0 x V Q2.out HW2.out))).mono ?_
      rintro e V3 ⟨rfl, hb3⟩
      have y4 := (hb3.block _ (lt_of_block X4.out)).trans X4.out
      have y3 := (hb3.block _ (lt_of_block X3.out)).trans X3.out
      have y5 := (hb3.block _ (lt_of_block X5.out)).trans X5.out
      have y7 := (hb3.block _ (lt_of_block X7.out)).trans X7.out
      have yK := XK.out.below hb3 rr
      have c7' := cell_of_one y7
      have c10' := cell_of_one y5
      have f10' := free_of_one y5
      have Y4 := hI y4; clear y4
      have Y3 := hI y3; clear y3
      have Y5 := hI y5; clear y5
      have YK := hI yK; clear yK
      clear hb3 c7 c10 f10 y7
      obtain ⟨d, hd⟩ : ∃ d, d = decide (x0 = x) := ⟨_, rfl⟩
      rw [← hd]
      have HDD := hI hd; clear hd
      cases d with
      | true =>
       have hsame : bumpK fs.2 (j + 2) cnt = bumpK fs.2 (j + 1) cnt := bumpK_same (by rw [Q1.out, HFX.out, of_decide_eq_true HDD.out.symm])
       have HSM := hI hsame; clear hsame
       gi_wp2
       have u1 := (Below.heap_setCell V3 ⟨b10, 0, none⟩ (.slice A2 n2 c2) lr (by simp; omega)).trans Y4.out
       refine ⟨u1, rfl, HEND.out _ u1 (one_setCell Y5.out) ?_ (YK.out.setCell (p := ⟨b10, 0, none⟩) (by simp) _)⟩
       rw [show j + 1 + 1 = j + 2 from rfl, HSM.out]
       exact (Below.heap_setCell V3 ⟨b10, 0, none⟩ (.slice A2 n2 c2) g (by simp; omega)).trans Y3.out
      | false =>
       have hne : fs.2[j]? ≠ fs.2[j + 1]? := by
        rw [Q1.out, HFX.out]
        intro e
        have h3 := HDD.out
        rw [decide_eq_true (by simpa using e)] at h3
        cases h3
       have hjn : j < n := by omega
       obtain ⟨v, hv⟩ : ∃ v, (bumpK fs.2 (j + 1) cnt)[j]? = some v := ⟨(bumpK fs.2 (j + 1) cnt)[j]'(by rw [bumpK_len, HC.out.1]; exact hjn), List.getElem?_eq_getElem _⟩
       have hvb := bumpK_bound HC.out.2.1 v (List.mem_of_getElem? hv)
       have hset := bumpK_set hne hv
       have hcv := cntC_get Y3.out hv
       have hfv := frozen_of_row V3 g j _ _ Y3.out
       have HSET := hI hset; clear hset
       have HV := hI hv; clear hv
       have hjn' : (j : Int) < (n : Int) := by omega
       obtain ⟨hv0, hv1⟩ := hvb
       clear hne
       gi_wp2
       have t1 : (V3.setCell ⟨g, j, none⟩ (.int .i64 (v + 1))).heap[g]? = some (.cells (cntC (bumpK fs.2 (j + 2) cnt)) 3 (0, 0)) := by
        rw [← HSET.out, ← cntC_set]; exact heap_setCell_same Y3.out
       have t5 := (Below.heap_setCell V3 ⟨g, j, none⟩ (.int .i64 (v + 1)) b10 (by simp; omega)).trans Y5.out
       have t4 := (Below.heap_setCell V3 ⟨g, j, none⟩ (.int .i64 (v + 1)) lr (by simp; omega)).trans Y4.out
       have tK := YK.out.setCell (p := ⟨g, j, none⟩) (by simp) (.int .i64 (v + 1))
       generalize (V3.setCell ⟨g, j, none⟩ (.int .i64 (v + 1))) = V4 at *
       have u1 := (Below.heap_setCell V4 ⟨b10, 0, none⟩ (.slice A2 n2 c2) lr (by simp; omega)).trans t4
       refine ⟨u1, rfl, HEND.out _ u1 (one_setCell t5) ?_ (tK.setCell (p := ⟨b10, 0, none⟩) (by simp) _)⟩
       exact (Below.heap_setCell V4 ⟨b10, 0, none⟩ (.slice A2 n2 c2) g (by simp; omega)).trans t1
   rintro e W' ⟨⟨T, hx⟩, hend⟩
   rw [← HFS.out] at hx hend
   rw [HJ.out] at hx
   obtain ⟨rfl, h2, h3, h4, A4, n4, c4, h5, -⟩ := hx
   have hMs : Hid (∀ X : World, Keep (fun k => k = g ∨ k = b10 ∨ k = lr) W1 X → Marks w.heap.size X (mark D :: ms)) := by
    intro X hX
    have hbs := HB1.out.size
    refine ⟨D, rfl, by omega, (hX.block D (by omega) (by omega)).trans HD1.out, fun D' hm => ?_, HMk.out.mono fun D' hm hd => ?_⟩
    ·have := (Array.getElem?_eq_some_iff.1 (HMk.out.at_ D' hm).1).1; omega
    ·have hdl := (Array.getElem?_eq_some_iff.1 hd).1
     have hd2 : W1.heap[D']? = some (.deferred (some [])) := (hKr.out.block D' hdl (by simp)).trans hd
     have hng : D' ≠ g := by
      rintro rfl
      have := HG.out
      rw [hd] at this; cases this
     exact (hX.block D' (by have := hKr.out.size; omega) (by omega)).trans hd2
   rcases hend with ⟨h0, v, rfl⟩ | ⟨h0, rfl⟩
   ·refine .inl ⟨h4, ?_⟩
    have hKf := h2.putObj (l := lr) (by simp) (.loop (rc .exhausted none))
    have h3f := (World.putObj_heap_other (w := W') (o := .loop (rc .exhausted none)) (show g ≠ lr by omega)).trans h3
    generalize W'.putObj lr (.loop (rc .exhausted none)) = X at *
    have HKf := hI hKf; clear hKf h2 h3 h4 h5
    have H3f := hI h3f; clear h3f
    have HXM := hI (hMs.out X HKf.out)
    have x7 := hI ((HKf.out.block b7 (by omega) (by omega)).trans H7W1.out)
    have x5 := hI ((HKf.out.block b5 (by omega) (by omega)).trans H5W1.out)
    have xB : Below w.heap.size w X := hBW1.out.trans (HKf.out.to_below (fun k hk => by have := HB1.out.size; omega) hBW1.out.size)
    have HXC : Hid ((bumpK fs.2 fs.2.length cnt).length = n ∧ (∀ c ∈ bumpK fs.2 fs.2.length cnt, 0 ≤ c ∧ c ≤ ((k + 1 : Nat) : Int)) ∧ usedM (lawsD xs) wss = usedGo (lawsD xs) (wss.drop (k + 1)) (bumpK fs.2 fs.2.length cnt)) := by
     refine ⟨by rw [bumpK_len]; exact HC.out.1, fun c hc => ?_, ?_⟩
     ·have := bumpK_bound HC.out.2.1 c hc; omega
     ·rw [HC.out.2.2, HFS.out]; exact usedGo_step HWK.out (by rw [← HFS.out]; exact h0)
    clear h0
    gi_wp2
    exact ⟨⟨k + 1, bumpK fs.2 fs.2.length cnt, mark D :: ms, ⟨by omega, rfl⟩, by omega, HXM.out, H3f.out, HXC.out⟩, by simp [intOf]; omega⟩
   ·simp only [afterRange, Exit.inBlock, Exit.then]
    have hM := hMs.out W' h2
    have x5 := (h2.block b5 (by omega) (by omega)).trans H5W1.out
    have xB : Below w.heap.size w W' := hBW1.out.trans (h2.to_below (fun k hk => by have := HB1.out.size; omega) hBW1.out.size)
    have HM' : Hid (usedM (lawsD xs) wss = (fs.1, [])) := by show usedM _ _ = _; rw [HC.out.2.2, HFS.out]; exact usedGo_fail HWK.out (by rw [← HFS.out]; exact h0)
    refine leavesM_marks (B := w.heap.size) (ds := mark D :: ms) (rest := [resc b5]) (by simp) _ hM fun w' hw' => ?_
    have y5 := one_setCell (u := .int .i64 fs.1) (hw'.row x5)
    exact leaves_rescue_fail (hw'.row x5) ⟨_, results_tmp_errno Tryz.results25 _ _ b5 (.slice none 0 0) fs.1 rfl rfl (cell_of_one y5), none, 0, 0, by rw [HM'.out], by rw [HM'.out]; exact Cells.nil _ _, (xB.trans hw'.below).setCell (p := ⟨b5, 0, none⟩) (by simp; omega) _⟩
  ·obtain rfl : k = n' := by omega
   have hfin : usedM (lawsD xs) wss = (0, cnt) := by rw [HC.out.2.2, List.drop_eq_nil_of_le (by rw [HW.out.len]; exact rr)]; rfl
   have HFIN := hI hfin; clear hfin
   have c7 := cell_of_one H7.out
   have c5 := cell_of_one H5r.out
   have f5 := free_of_one H5r.out
   gi_wp2
   have y5 := one_setCell (u := .int .i64 0) H5r.out
   have yg := (Below.heap_setCell wr ⟨b5, 0, none⟩ (.int .i64 0) g (by simp; omega)).trans HG.out
   have yK : Keep (fun k => k = b5) wr (wr.setCell ⟨b5, 0, none⟩ (.int .i64 0)) := (Keep.refl (fun k => k = b5) wr).setCell (p := ⟨b5, 0, none⟩) rfl _
   have yB : Below w.heap.size w (wr.setCell ⟨b5, 0, none⟩ (.int .i64 0)) := hB.setCell (p := ⟨b5, 0, none⟩) (by simp; omega) _
   have yM : Marks w.heap.size (wr.setCell ⟨b5, 0, none⟩ (.int .i64 0)) ms := HMk.out.keep yK fun k hk o ho hd => by
    subst hk
    rw [H5r.out] at ho; subst hd; cases ho
   refine leavesM_marks (B := w.heap.size) (ds := ms) (rest := [resc b5]) (by simp) _ yM fun w' hw' => ?_
   refine leaves_rescue_ret ⟨_, results_tmp_errno Tryz.results25 _ _ b5 (.slice (some ⟨g, 0, none⟩) n n) 0 rfl rfl (cell_of_one (hw'.row y5)), some ⟨g, 0, none⟩, n, n, by rw [HFIN.out], ?_, yB.trans hw'.below⟩
   rw [HFIN.out]
   exact ints_row (hw'.row yg) HC.out.1 hnm
end Go.Proofs.YtlgliddhideflaaGreatDoor

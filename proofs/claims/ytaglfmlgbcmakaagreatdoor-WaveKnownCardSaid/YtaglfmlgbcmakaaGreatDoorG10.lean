/-
  law.run: what it returns; the replacements as they are reckoned.
  The iterator of law.run: what is asked of who uses it; laws that go from left to right.
  The iterator of law.run: laws that go from right to left.
-/
import Derived.Test.YtaglfmlgbcmakaaGreatDoorG09
set_option linter.all false
set_option maxRecDepth 100000
set_option maxHeartbeats 4000000
namespace Go.Proofs.YtaglfmlgbcmakaaGreatDoor
open Go.RowKit Go.Shelf
def RetRun (w : World) (l : LawD) (a : LawA) (A : Option Addr) (n c : Nat) (e : Ending) (w' : World) : Prop :=
 ∃ bw bl bk bm : Nat, e = .returned (.func (.func 204) #[] #[.pointer (some ⟨bw, 0, none⟩), .pointer (some ⟨bl, 0, none⟩), .pointer (some ⟨bk, 0, none⟩), .pointer (some ⟨bm, 0, none⟩)]) ∧
  w'.heap[bl]? = some (.cells (lawCs l a) 55 (0, 0)) ∧ w'.heap[bw]? = some (.cells #[.slice A n c] 28 (0, 0)) ∧
  w'.heap[bk]? = some (.cells #[.int .i64 l.ifs.length] 3 (0, 0)) ∧ w'.heap[bm]? = some (.cells #[.int .i64 l.outs.length] 3 (0, 0)) ∧
  w.heap.size ≤ bw ∧ w.heap.size ≤ bl ∧ w.heap.size ≤ bk ∧ w.heap.size ≤ bm ∧ Below w.heap.size w w'
theorem run_c (l : LawD) (a : LawA) (A : Option Addr) (n c : Nat) (w : World) : Calls Tryz.prog 198 #[lawV l a, .slice A n c] w (RetRun w l a A n c) := by
 obtain ⟨Wb, hWb, hrb, hlb, hBb, hzb⟩ := law_box w l a
 obtain ⟨d0, d1, d2, d3⟩ := law_reads hrb
 go_enter Tryz.func198, Tryz.ntmps198
 go_wp2
 clear hWb d0 d3
 have u1 : (Wb.alloc (.cells #[.slice A n c] 28)).cell? ⟨w.heap.size, 15, none⟩ = some (.slice a.Ai l.ifs.length a.ci) := (cell_new_block hlb).trans d1
 have u2 : (Wb.alloc (.cells #[.slice A n c] 28)).cell? ⟨w.heap.size, 16, none⟩ = some (.slice a.Ao l.outs.length a.co) := (cell_new_block hlb).trans d2
 have ul : (Wb.alloc (.cells #[.slice A n c] 28)).heap[w.heap.size]? = some (.cells (lawCs l a) 55 (0, 0)) := (heap_old_at hlb).trans hrb
 have uw : (Wb.alloc (.cells #[.slice A n c] 28)).heap[Wb.heap.size]? = some (.cells #[.slice A n c] 28 (0, 0)) := heap_new_at rfl
 have uB : Below w.heap.size w (Wb.alloc (.cells #[.slice A n c] 28)) := hBb.alloc hBb.size _
 generalize (Wb.alloc (.cells #[.slice A n c] 28)) = U at *
 have hul := lt_of_block ul
 have huw := lt_of_block uw
 have UL := hI ul; clear ul
 have UW := hI uw; clear uw
 have UB := hI uB; clear uB d1 d2
 have hwb := hBb.size
 clear hrb hBb
 go_region_held3 (fun w' => w'.cell? ⟨w.heap.size, 15, none⟩ = some (.slice a.Ai l.ifs.length a.ci) ∧ w'.cell? ⟨w.heap.size, 16, none⟩ = some (.slice a.Ao l.outs.length a.co)) (first | (go_keep; done) | ((try dsimp only); ((repeat' apply And.intro) <;> (try simp (disch := omega) only [cell_set_block, cell_new_block, World.cell?_drew]) <;> first | assumption | (simp [*, go_sem]; done)))) (fail)
 all_goals go_wp2
 all_goals
  go_ret
  refine ⟨Wb.heap.size, w.heap.size, _, _, rfl, (by repeat (first | exact UL.out | exact heap_new_at sd | rw [heap_drew] | rw [heap_old_at sd])), (by repeat (first | exact UW.out | exact heap_new_at sd | rw [heap_drew] | rw [heap_old_at sd])), (by repeat (first | exact UL.out | exact heap_new_at sd | rw [heap_drew] | rw [heap_old_at sd])), (by repeat (first | exact UL.out | exact heap_new_at sd | rw [heap_drew] | rw [heap_old_at sd])), by omega, rr, by omega, by omega, ((UB.out.alloc (by omega) _).alloc (by simp; omega) _).drew⟩
/-! The replacements, as they are reckoned. -/
structure RS where
 at_ : Int
 next : Int
 shift : Int
 now : List Snd
def finM (l : LawD) (ws : List Snd) (r : RS) : Bool :=
 if l.mode = 1 then decide ((ws.length : Int) < r.at_ + l.ifs.length) else if l.mode = 2 then decide ((r.now.length : Int) < r.at_ + l.ifs.length) else if l.mode = 3 then decide (r.at_ < 0) else true
def stepM (l : LawD) (ws : List Snd) (r : RS) : Option (Int × List Snd) × RS :=
 if l.mode = 1 then
  if hitM l ws r.at_.toNat && decide (r.next ≤ r.at_) then
   let now := r.now.take (r.at_ + r.shift).toNat ++ putM l ((ws.drop r.at_.toNat).take l.ifs.length) ++ ws.drop (r.at_.toNat + l.ifs.length)
   (some (r.at_, now), ⟨r.at_ + 1, r.at_ + max (l.ifs.length : Int) 1, r.shift + l.outs.length - l.ifs.length, now⟩)
  else (none, { r with at_ := r.at_ + 1 })
 else if l.mode = 2 then
  if hitM l r.now r.at_.toNat then (some (r.at_, replaceM l r.now r.at_.toNat), ⟨r.at_ + l.outs.length + (if l.ifs.length = 0 then 1 else 0), r.next, r.shift, replaceM l r.now r.at_.toNat⟩)
  else (none, { r with at_ := r.at_ + 1 })
 else
  if hitM l r.now r.at_.toNat then (some (r.at_, replaceM l r.now r.at_.toNat), ⟨r.at_ - max (l.ifs.length : Int) 1, r.next, r.shift, replaceM l r.now r.at_.toNat⟩)
  else (none, { r with at_ := r.at_ - 1 })
def startM (l : LawD) (ws : List Snd) : RS := if l.mode = 3 then ⟨(ws.length : Int) - l.ifs.length, 0, 0, ws⟩ else ⟨0, 0, 0, ws⟩
end Go.Proofs.YtaglfmlgbcmakaaGreatDoor
namespace Go.Proofs.YtaglfmlgbcmakaaGreatDoor
open Go.RowKit Go.Shelf
attribute [local go_sem] Oper.semAt_some
theorem yield_any {P : Program} {m m' l : Nat} {args : Array Value} {W : World} {R : Ending → World → Prop} (h : YieldAt Fence.wide m P l args W R) : YieldAt Fence.wide m' P l args W R := by
 obtain ⟨fn, tmps, assign, body, hy, h1, h2⟩ := h
 exact ⟨fn, tmps, assign, body, hy, h1, fun c cs _ => h2 c cs (room_wide _)⟩
structure TU where
 w : Nat → Prop
 u : Nat → Prop
def TU.all (T : TU) (k : Nat) : Prop := T.w k ∨ T.u k
structure RunUse (lr bw bl bk bm : Nat) (l : LawD) (a : LawA) (A : Option Addr) (n c : Nat) (ws : List Snd) (B : Nat) (J Jx : RS → TU → World → Prop) : Prop where
 hlt : ∀ r T W', J r T W' → ∀ k, T.all k → k < W'.heap.size
 hst : ∀ r T W' W'', J r T W' → Keep (fun k => B ≤ k ∧ ¬ T.all k) W' W'' → J r T W''
 hsx : ∀ r T W' W'', Jx r T W' → Keep (fun k => B ≤ k ∧ ¬ T.all k) W' W'' → Jx r T W''
 hrd : ∀ r T W', J r T W' → W'.heap[bl]? = some (.cells (lawCs l a) 55 (0, 0)) ∧ W'.heap[bw]? = some (.cells #[.slice A n c] 28 (0, 0)) ∧
  W'.heap[bk]? = some (.cells #[.int .i64 l.ifs.length] 3 (0, 0)) ∧ W'.heap[bm]? = some (.cells #[.int .i64 l.outs.length] 3 (0, 0)) ∧ LawAt W' l a ∧ IsWord W' A n c ws ∧ TabOK W'
 hnd : ∀ r T W', J r T W' → ∀ k, T.all k → ∀ x, W'.heap[k]? ≠ some (.deferred x)
 hnx : ∀ r T W', Jx r T W' → ∀ k, T.all k → ∀ x, W'.heap[k]? ≠ some (.deferred x)
 hskip : ∀ r T W' r', finM l ws r = false → stepM l ws r = (none, r') → J r T W' → J r' T W'
 hy : ∀ r T W' r' p now A' n' c', finM l ws r = false → stepM l ws r = (some (p, now), r') → IsWord W' A' n' c' now → (∀ ad, A' = some ad → B ≤ ad.block ∧ ¬ T.all ad.block) → J r T W' → YieldAt Fence.wide 0 Tryz.prog lr #[.int .i64 p, .slice A' n' c'] W' (fun e W'' =>
  (e = .returned (.bool true) ∧ now.length ≤ 32 ∧ ∃ T', J r' T' W'' ∧ Keep T.w W' W'' ∧ (∀ k, T'.w k → T.w k ∨ W'.heap.size ≤ k) ∧ ∀ k, T'.all k → T.all k ∨ W'.heap.size ≤ k ∨ (0 < n' ∧ ∃ ad, A' = some ad ∧ ad.block = k)) ∨ (e = .returned (.bool false) ∧ Jx r T W'' ∧ Keep T.w W' W''))
def NowOK (B : Nat) (A : Option Addr) (n c : Nat) (ws : List Snd) (T : Nat → Prop) (w : World) (An : Option Addr) (nn cn : Nat) (now : List Snd) : Prop :=
 (An = A ∧ nn = n ∧ cn = c ∧ now = ws) ∨ (IsWord w An nn cn now ∧ (0 < nn → ∀ ad, An = some ad → B + 1 < ad.block ∧ ¬ T ad.block ∧ ad.block < w.heap.size))
theorem NowOK.word {B : Nat} {A : Option Addr} {n c : Nat} {ws : List Snd} {T : Nat → Prop} {w : World} {An : Option Addr} {nn cn : Nat} {now : List Snd} (h : NowOK B A n c ws T w An nn cn now) (hw : IsWord w A n c ws) : IsWord w An nn cn now := by
 rcases h with ⟨rfl, rfl, rfl, rfl⟩ | ⟨h, _⟩
 ·exact hw
 ·exact h
theorem IsWord.keep {S : Nat → Prop} {w w' : World} {A : Option Addr} {n c : Nat} {xs : List Snd} (h : IsWord w A n c xs) (hk : Keep S w w') (hS : 0 < n → ∀ ad, A = some ad → ¬ S ad.block) : IsWord w' A n c xs := by
 obtain ⟨h1, h2, h3, h4, h5⟩ := h
 refine ⟨h1, h2, h3, h4, fun hn => ?_⟩
 obtain ⟨b, off, rfl, hlt, hc⟩ := h5 hn
 exact ⟨b, off, rfl, Nat.lt_of_lt_of_le hlt hk.size, fun j v hv => (World.cell?_of_block (hk.block b hlt (hS hn _ rfl))).trans (hc j v hv)⟩
theorem NowOK.keep {B : Nat} {A : Option Addr} {n c : Nat} {ws : List Snd} {T T' S : Nat → Prop} {w w' : World} {An : Option Addr} {nn cn : Nat} {now : List Snd} (h : NowOK B A n c ws T w An nn cn now) (hk : Keep S w w')
  (hS : ∀ b, B + 1 < b → b < w.heap.size → ¬ T b → ¬ S b ∧ ¬ T' b) : NowOK B A n c ws T' w' An nn cn now := by
 rcases h with h | ⟨h, hb⟩
 ·exact .inl h
 ·refine .inr ⟨h.keep hk fun hn ad had => (hS _ (hb hn ad had).1 (hb hn ad had).2.2 (hb hn ad had).2.1).1, fun hn ad had => ⟨(hb hn ad had).1, (hS _ (hb hn ad had).1 (hb hn ad had).2.2 (hb hn ad had).2.1).2, Nat.lt_of_lt_of_le (hb hn ad had).2.2 hk.size⟩⟩
theorem keep_of_shut {B : Nat} {T : Nat → Prop} {w w' : World} (hs : Shut B w w') (hnd : ∀ k, T k → ∀ x, w.heap[k]? ≠ some (.deferred x)) : Keep (fun k => B ≤ k ∧ ¬ T k) w w' :=
 ⟨hs.os, hs.tape, hs.output, by rw [hs.size]; exact rr, fun k _ hn => by
  rcases hs.block k with e | ⟨e, x, hx⟩
  ·exact e
  ·exact absurd ⟨e, fun h => hnd k h x hx⟩ hn⟩
theorem run1_right (m lr bw bl bk bm : Nat) (hm : 1 ≤ m) (l : LawD) (a : LawA) (A : Option Addr) (n c : Nat) (ws : List Snd) (W : World) (J Jx : RS → TU → World → Prop) (T0 : TU)
  (H : RunUse lr bw bl bk bm l a A n c ws W.heap.size J Jx) (h0 : J (startM l ws) T0 W) (hmode : l.mode = 2) (hn : n ≤ 32) (hfit : ∀ x ∈ l.outs, fitsM x l.ifs.length = true) (ho : l.outs.length ≤ 64) (hk : l.ifs.length ≤ 64) :
  CallsIn Fence.wide m Tryz.prog 204 #[.func (.yield lr) #[] #[], .pointer (some ⟨bw, 0, none⟩), .pointer (some ⟨bl, 0, none⟩), .pointer (some ⟨bk, 0, none⟩), .pointer (some ⟨bm, 0, none⟩)] W fun e W' =>
   (∃ v, e = .returned v) ∧ ((∃ r T, finM l ws r = true ∧ J r T W') ∨ ∃ r T, Jx r T W') := by
 have hT0 := H.hlt _ _ _ h0
 obtain ⟨r1, r2, r3, r4, r5, r6, r7⟩ := H.hrd _ _ _ h0
 have hbl := lt_of_block r1
 have hbw := lt_of_block r2
 have hbk := lt_of_block r3
 have hbm := lt_of_block r4
 obtain ⟨d0, d1, d2, d3⟩ := law_reads r1
 have e2 := cell_of_one r2
 have hwl : ws.length = n := r6.len
 have HWL := hI hwl; clear hwl
 rw [hmode] at d3
 have HM := hI hmode; clear hmode
 have HU := hI H; clear H
 have HF := hI hfit; clear hfit
 have H0 := hI h0; clear h0 r1 r2 r3 r4 r5 r6 r7 d0 d1 d2
 refine callsIn_of_wp Tryz.func204 rfl trivial ?_
 simp only [Tryz.ntmps204, List.size_toArray, List.length_cons, List.length_nil, Nat.reduceAdd, Nat.reduceSub, Array.replicate_succ, Array.replicate_zero, List.push_toArray, List.append_toArray, List.nil_append, List.cons_append]
 gi_wp2
 have g5 : ((W.alloc (.cells #[.func (.yield lr) #[] #[]] 216)).alloc (.cells #[.slice A n c] 28)).heap[W.heap.size]? = some (.cells #[.func (.yield lr) #[] #[]] 216 (0, 0)) := hpt
 have g6 : ((W.alloc (.cells #[.func (.yield lr) #[] #[]] 216)).alloc (.cells #[.slice A n c] 28)).heap[W.heap.size + 1]? = some (.cells #[.slice A n c] 28 (0, 0)) := hpt
 have g7 : Below W.heap.size W ((W.alloc (.cells #[.func (.yield lr) #[] #[]] 216)).alloc (.cells #[.slice A n c] 28)) := bel
 generalize ((W.alloc (.cells #[.func (.yield lr) #[] #[]] 216)).alloc (.cells #[.slice A n c] 28)) = W0 at *
 have J0 := hI (HU.out.hst _ T0 W W0 H0.out (keep_of_below g7))
 have hW0 := lt_of_block g6
 have G5 := hI g5; clear g5
 have G6 := hI g6; clear g6
 clear g7 e2 d3
 gi_loopw [10] (fun i wr => ∃ (s : Nat) (r : RS) (T : TU) (An : Option Addr) (nn cn : Nat), i = .int .i64 s ∧ Hid (r.at_ = (s : Int)) ∧ nn ≤ 32 ∧ s ≤ nn + 1 ∧ Hid (J r T wr) ∧
   Hid (wr.heap[W.heap.size]? = some (.cells #[.func (.yield lr) #[] #[]] 216 (0, 0))) ∧ Hid (wr.heap[W.heap.size + 1]? = some (.cells #[.slice An nn cn] 28 (0, 0))) ∧
   Hid (NowOK W.heap.size A n c ws T.w wr An nn cn r.now) ∧ Hid (¬ T.all W.heap.size ∧ ¬ T.all (W.heap.size + 1)))
  (fun i wr => match wr.cell? ⟨W.heap.size + 1, 0, none⟩ with | some (.slice _ q _) => q + 2 - (intOf i).toNat | _ => 0)
 case atStart =>
  refine ⟨0, startM l ws, T0, A, n, c, rfl, ?_, hn, by omega, J0, G5, G6, .inl ⟨rfl, rfl, rfl, ?_⟩, fun h => by have := hT0 _ h; omega, fun h => by have := hT0 _ h; omega⟩
  ·show (startM l ws).at_ = _
   unfold startM; rw [if_neg (by rw [HM.out]; decide)]; rfl
  ·unfold startM; rw [if_neg (by rw [HM.out]; decide)]
 case round =>
  obtain ⟨s, r, T, An, nn, cn, rfl, hra, hnn, hsn, HJ, hg5, hg6, hnow, hTb⟩ := hrel
  obtain ⟨r1, r2, r3, r4, r5, r6, r7⟩ := HU.out.hrd _ _ _ HJ.out
  have R1 := hI r1; clear r1
  have hblr := lt_of_block R1.out
  have e3 := cell_of_one r3
  have e4 := cell_of_one r4
  have e5 := cell_of_one hg5.out
  have e6 := cell_of_one hg6.out
  have f6 := free_of_one hg6.out
  have hwr := lt_of_block hg6.out
  have R5 := hI r5; clear r5
  have R6 := hI r6; clear r6
  have R7 := hI r7; clear r7 r2
  have R3 := hI r3; have R4 := hI r4; clear r3 r4
  have hnw := hI (hnow.out.word R6.out)
  have hnl : r.now.length = nn := hnw.out.len
  have HNL := hI hnl; clear hnl
  by_cases hin : s + l.ifs.length ≤ nn
  ·have hin' : ((s : Int) + (l.ifs.length : Int) ≤ (nn : Int)) := by omega
   have hfin : finM l ws r = false := by
    unfold finM; rw [HM.out, hra.out, HNL.out]; simp; omega
   have HFIN := hI hfin; clear hfin
   gi_wp2_with (refine load_lawIn rfl (.tmp 2) rfl bl l a rfl R1.out ?_)
   refine ⟨trivial, ?_⟩
   refine (callsIn_wide.2 (hit_c l a An nn cn r.now s wr R5.out hnw.out R7.out (by omega) (by omega) hk)).mono ?_
   rintro e w1 ⟨rfl, hb1⟩
   have hb1s := hb1.size
   have HJ1 := hI (HU.out.hst _ _ _ _ HJ.out (keep_of_below (S := fun k => W.heap.size ≤ k ∧ ¬ T.all k) hb1))
   have G51 := hI ((hb1.block _ (lt_of_block hg5.out)).trans hg5.out)
   have G61 := hI ((hb1.block _ hwr).trans hg6.out)
   have HNOW1 := hI (hnow.out.keep (S := fun _ => False) (T' := T.w) (keep_of_below hb1) (fun b _ _ h => ⟨fun h => h, h⟩))
   have R31 := hI ((hb1.block _ (lt_of_block R3.out)).trans R3.out)
   have R41 := hI ((hb1.block _ (lt_of_block R4.out)).trans R4.out)
   have R11 := hI ((hb1.block _ hblr).trans R1.out)
   have R51 := hI (R5.out.below hb1 rr)
   have R61 := hI (R6.out.below hb1 rr)
   have R71 := hI (R7.out.below hb1 rr)
   clear hb1 e3 e4 e5 e6 f6
   cases hh : hitM l r.now s with
   | false =>
    have hst : stepM l ws r = (none, { r with at_ := r.at_ + 1 }) := by
     unfold stepM; rw [HM.out, hra.out]; simp [hh]
    have HST := hI hst; clear hst hh
    have e61 := cell_of_one G61.out
    have e60 := cell_of_one hg6.out
    gi_wp2
    go_roundw
    case rel =>
     exact ⟨s + 1, { r with at_ := r.at_ + 1 }, T, An, nn, cn, by go_num, by show r.at_ + 1 = _; rw [hra.out]; omega, hnn, by omega, HU.out.hskip _ _ _ _ HFIN.out HST.out HJ1.out, G51, G61, HNOW1, hTb⟩
    case measure => rw [e61, e60]; simp [intOf]; omega
   | true =>
    have HH := hI hh; clear hh
    have hnw1 := hI (HNOW1.out.word R61.out)
    have e61 := cell_of_one G61.out
    have e31 := cell_of_one R31.out
    have e41 := cell_of_one R41.out
    gi_wp2_with (refine load_lawIn rfl (.tmp 2) rfl bl l a rfl R11.out ?_)
    refine ⟨trivial, ?_⟩
    refine (callsIn_wide.2 (replace_c l a An nn cn r.now s w1 R51.out hnw1.out HF.out ho hin (by omega))).mono ?_
    rintro e w2 ⟨A2, n2, c2, rfl, hw2, hb2, hfr⟩
    have hb2s := hb2.size
    have g52 := (hb2.block _ (lt_of_block G51.out)).trans G51.out
    have g62 := (hb2.block _ (lt_of_block G61.out)).trans G61.out
    have hK2 : Keep (fun k => W.heap.size ≤ k ∧ ¬ T.all k) w1 (w2.setCell ⟨W.heap.size + 1, 0, none⟩ (.slice A2 n2 c2)) := (keep_of_below hb2).setCell (p := ⟨W.heap.size + 1, 0, none⟩) ⟨by simp, hTb.out.2⟩ _
    have HJ3 := hI (HU.out.hst _ _ _ _ HJ1.out hK2)
    have hw3 : IsWord (w2.setCell ⟨W.heap.size + 1, 0, none⟩ (.slice A2 n2 c2)) A2 n2 c2 (replaceM l r.now s) := hw2.keep (S := fun k => k = W.heap.size + 1) ((Keep.refl (fun k => k = W.heap.size + 1) _).setCell (p := ⟨W.heap.size + 1, 0, none⟩) rfl _) (fun _ ad had h => by have := hfr ad had; omega)
    have hA2 : ∀ ad, A2 = some ad → w1.heap.size ≤ ad.block := hfr
    have G53 := hI ((Below.heap_setCell w2 ⟨W.heap.size + 1, 0, none⟩ (.slice A2 n2 c2) W.heap.size (by simp)).trans g52)
    have G63 := hI (one_setCell (u := .slice A2 n2 c2) g62)
    have f62 := free_of_one g62
    have e62 := cell_of_one g62
    have e52 := cell_of_one g52
    have hst : stepM l ws r = (some ((s : Int), replaceM l r.now s), ⟨(s : Int) + l.outs.length + (if l.ifs.length = 0 then 1 else 0), r.next, r.shift, replaceM l r.now s⟩) := by
     unfold stepM; rw [HM.out, hra.out]; simp [HH.out]
    have HST := hI hst; clear hst
    obtain ⟨fn, tmps, assign, body, hyr, hR⟩ := yield_any (m' := m - 1) (HU.out.hy r T _ _ _ _ A2 n2 c2 HFIN.out HST.out hw3 (fun ad had => by have h1 := hA2 ad had; exact ⟨by omega, fun h => by have := HU.out.hlt _ _ _ HJ1.out _ h; omega⟩) HJ3.out)
    have HR := hI hR; clear hR
    have HW3 := hI hw3; clear hw3
    have HA2 := hI hA2
    clear hA2 hfr hb2 hw2 g52 g62 hK2 e61 e31 e41
    gi_wp2
    refine HR.out.mono ?_
    rintro e W4 (⟨rfl, hlen, T', hJ', hKp, hT', hTA⟩ | ⟨rfl, hx, _⟩)
    ·obtain ⟨q1, q2, q3, q4, q5, q6, q7⟩ := HU.out.hrd _ _ _ hJ'
     have e34 := cell_of_one q3
     have e44 := cell_of_one q4
     have HJ4 := hI hJ'
     have hl2 := HW3.out.len
     have hn2 : n2 = nn - l.ifs.length + l.outs.length := by
      rw [← hl2]; unfold replaceM putM
      have := HNL.out
      simp; omega
     have hKs := hKp.size
     have g54 := hI ((hKp.block _ (lt_of_block G53.out) (fun h => hTb.out.1 (.inl h))).trans G53.out)
     have g64 := hI ((hKp.block _ (lt_of_block G63.out) (fun h => hTb.out.2 (.inl h))).trans G63.out)
     have hTl := HU.out.hlt _ _ _ HJ1.out
     have h61 := lt_of_block G61.out
     have hnT : 0 < n2 → ∀ ad, A2 = some ad → W.heap.size + 1 < ad.block ∧ ¬ T.w ad.block ∧ ad.block < (w2.setCell ⟨W.heap.size + 1, 0, none⟩ (.slice A2 n2 c2)).heap.size := by
      intro hn ad had
      obtain ⟨b, off, hb, hlt, _⟩ := HW3.out.2.2.2.2 hn
      have h1 := HA2.out ad had
      rw [had] at hb
      injection hb with hb
      subst hb
      exact ⟨by omega, fun h => by have := hTl _ (.inl h); omega, hlt⟩
     have hA4 : 0 < n2 → ∀ ad, A2 = some ad → W.heap.size + 1 < ad.block ∧ ¬ T'.w ad.block ∧ ad.block < W4.heap.size := fun hn ad had =>
      ⟨(hnT hn ad had).1, fun h => (hT' _ h).elim (hnT hn ad had).2.1 (fun h2 => by have := (hnT hn ad had).2.2; omega), Nat.lt_of_lt_of_le (hnT hn ad had).2.2 hKs⟩
     have hw4 : IsWord W4 A2 n2 c2 (replaceM l r.now s) := HW3.out.keep hKp (fun hn ad had => (hnT hn ad had).2.1)
     clear hnT hTl h61
     have hTb4 : ¬ T'.all W.heap.size ∧ ¬ T'.all (W.heap.size + 1) := by
      have h1 := lt_of_block G63.out
      exact ⟨fun h => (hTA _ h).elim hTb.out.1 (fun h2 => h2.elim (fun h2 => by omega) (fun ⟨hn, ad, had, hb⟩ => by have := (hA4 hn ad had).1; omega)), fun h => (hTA _ h).elim hTb.out.2 (fun h2 => h2.elim (fun h2 => by omega) (fun ⟨hn, ad, had, hb⟩ => by have := (hA4 hn ad had).1; omega))⟩
     have HTB4 := hI hTb4
     have HW4 := hI hw4
     have HA4 := hI hA4
     have HLEN := hI hlen
     have HN2 := hI hn2
     have HL2 := hI hl2
     have e64 := cell_of_one g64.out
     have e60 := cell_of_one hg6.out
     clear q1 q2 q3 q4 q5 q6 q7 hJ' hKp hT' hTA hTb4 hw4 hA4 hlen hn2 hl2 e62 e52 f62 hyr
     by_cases hk0 : l.ifs.length = 0
     ·have hk1 : ((l.ifs.length : Int) == 0) = true := by rw [hk0]; rfl
      have HK0 := hI hk0; clear hk0
      gi_wp2
      go_roundw
      case rel =>
       refine ⟨s + l.outs.length + 1, _, T', A2, n2, c2, by go_num, ?_, by have := HL2.out; have := HLEN.out; omega, by have := HN2.out; omega, HJ4, g54, g64, .inr ⟨HW4.out, HA4.out⟩, HTB4⟩
       show _ = _
       simp only [HK0.out]
       simp
      case measure => rw [e64, e60]; simp only [intOf]; have := HN2.out; have := HK0.out; omega
     ·have hk1 : ((l.ifs.length : Int) == 0) = false := by simpa using hk0
      have HK0 := hI hk0; clear hk0
      gi_wp2
      go_roundw
      case rel =>
       refine ⟨s + l.outs.length, _, T', A2, n2, c2, by go_num, ?_, by have := HL2.out; have := HLEN.out; omega, by have := HN2.out; omega, HJ4, g54, g64, .inr ⟨HW4.out, HA4.out⟩, HTB4⟩
       show _ = _
       simp only [HK0.out]
       simp
      case measure => rw [e64, e60]; simp only [intOf]; have := HN2.out; have := HK0.out; omega
    ·have HX := hI hx; clear hx
     gi_wp2
     refine bodyPost_ret (results_none rfl _ _ _) rfl ?_
     exact ⟨⟨_, rfl⟩, .inr ⟨r, T, HX.out⟩⟩
  ·have hin' : decide ((s : Int) + (l.ifs.length : Int) ≤ (nn : Int)) = false := by simp; omega
   have hfin : finM l ws r = true := by
    unfold finM; rw [HM.out, hra.out, HNL.out]; simp; omega
   have HFIN := hI hfin; clear hfin
   gi_wp2
   go_end0
   exact ⟨⟨_, rfl⟩, .inl ⟨r, T, HFIN.out, HJ.out⟩⟩
end Go.Proofs.YtaglfmlgbcmakaaGreatDoor
namespace Go.Proofs.YtaglfmlgbcmakaaGreatDoor
open Go.RowKit Go.Shelf
attribute [local go_sem] Oper.semAt_some
theorem run1_left (m lr bw bl bk bm : Nat) (hm : 1 ≤ m) (l : LawD) (a : LawA) (A : Option Addr) (n c : Nat) (ws : List Snd) (W : World) (J Jx : RS → TU → World → Prop) (T0 : TU)
  (H : RunUse lr bw bl bk bm l a A n c ws W.heap.size J Jx) (h0 : J (startM l ws) T0 W) (hmode : l.mode = 3) (hn : n ≤ 32) (hfit : ∀ x ∈ l.outs, fitsM x l.ifs.length = true) (ho : l.outs.length ≤ 64) (hk : l.ifs.length ≤ 64) :
  CallsIn Fence.wide m Tryz.prog 204 #[.func (.yield lr) #[] #[], .pointer (some ⟨bw, 0, none⟩), .pointer (some ⟨bl, 0, none⟩), .pointer (some ⟨bk, 0, none⟩), .pointer (some ⟨bm, 0, none⟩)] W fun e W' =>
   (∃ v, e = .returned v) ∧ ((∃ r T, finM l ws r = true ∧ J r T W') ∨ ∃ r T, Jx r T W') := by
 have hT0 := H.hlt _ _ _ h0
 obtain ⟨r1, r2, r3, r4, r5, r6, r7⟩ := H.hrd _ _ _ h0
 have hbl := lt_of_block r1
 have hbw := lt_of_block r2
 have hbk := lt_of_block r3
 have hbm := lt_of_block r4
 obtain ⟨d0, d1, d2, d3⟩ := law_reads r1
 have e2 := cell_of_one r2
 have e3 := cell_of_one r3
 have hwl : ws.length = n := r6.len
 have HWL := hI hwl; clear hwl
 rw [hmode] at d3
 have HM := hI hmode; clear hmode
 have HU := hI H; clear H
 have HF := hI hfit; clear hfit
 have H0 := hI h0; clear h0 r1 r2 r3 r4 r5 r6 r7 d0 d1 d2
 refine callsIn_of_wp Tryz.func204 rfl trivial ?_
 simp only [Tryz.ntmps204, List.size_toArray, List.length_cons, List.length_nil, Nat.reduceAdd, Nat.reduceSub, Array.replicate_succ, Array.replicate_zero, List.push_toArray, List.append_toArray, List.nil_append, List.cons_append]
 gi_wp2
 have g5 : ((W.alloc (.cells #[.func (.yield lr) #[] #[]] 216)).alloc (.cells #[.slice A n c] 28)).heap[W.heap.size]? = some (.cells #[.func (.yield lr) #[] #[]] 216 (0, 0)) := hpt
 have g6 : ((W.alloc (.cells #[.func (.yield lr) #[] #[]] 216)).alloc (.cells #[.slice A n c] 28)).heap[W.heap.size + 1]? = some (.cells #[.slice A n c] 28 (0, 0)) := hpt
 have g7 : Below W.heap.size W ((W.alloc (.cells #[.func (.yield lr) #[] #[]] 216)).alloc (.cells #[.slice A n c] 28)) := bel
 generalize ((W.alloc (.cells #[.func (.yield lr) #[] #[]] 216)).alloc (.cells #[.slice A n c] 28)) = W0 at *
 have J0 := hI (HU.out.hst _ T0 W W0 H0.out (keep_of_below g7))
 have hW0 := lt_of_block g6
 have G5 := hI g5; clear g5
 have G6 := hI g6; clear g6
 clear g7 e2 d3 e3
 gi_loopw [11] (fun i wr => ∃ (x : Int) (r : RS) (T : TU) (An : Option Addr) (nn cn : Nat), i = .int .i64 x ∧ Hid (r.at_ = x) ∧ nn ≤ 32 ∧ x ≤ 4000 ∧ -100 ≤ x ∧ Hid (J r T wr) ∧
   Hid (wr.heap[W.heap.size]? = some (.cells #[.func (.yield lr) #[] #[]] 216 (0, 0))) ∧ Hid (wr.heap[W.heap.size + 1]? = some (.cells #[.slice An nn cn] 28 (0, 0))) ∧
   Hid (NowOK W.heap.size A n c ws T.w wr An nn cn r.now) ∧ Hid (¬ T.all W.heap.size ∧ ¬ T.all (W.heap.size + 1)))
  (fun i wr => (intOf i + 1).toNat)
 case atStart =>
  refine ⟨(n : Int) - (l.ifs.length : Int), startM l ws, T0, A, n, c, rfl, ?_, hn, by omega, by omega, J0, G5, G6, .inl ⟨rfl, rfl, rfl, ?_⟩, fun h => by have := hT0 _ h; omega, fun h => by have := hT0 _ h; omega⟩
  ·show (startM l ws).at_ = _
   unfold startM; rw [if_pos HM.out, HWL.out]
  ·unfold startM; rw [if_pos HM.out]
 case round =>
  obtain ⟨x, r, T, An, nn, cn, rfl, hra, hnn, hsn, hx0, HJ, hg5, hg6, hnow, hTb⟩ := hrel
  obtain ⟨r1, r2, r3, r4, r5, r6, r7⟩ := HU.out.hrd _ _ _ HJ.out
  have R1 := hI r1; clear r1
  have hblr := lt_of_block R1.out
  have e3 := cell_of_one r3
  have e4 := cell_of_one r4
  have e5 := cell_of_one hg5.out
  have e6 := cell_of_one hg6.out
  have f6 := free_of_one hg6.out
  have hwr := lt_of_block hg6.out
  have R5 := hI r5; clear r5
  have R6 := hI r6; clear r6
  have R7 := hI r7; clear r7 r2
  have R3 := hI r3; have R4 := hI r4; clear r3 r4
  have hnw := hI (hnow.out.word R6.out)
  have hnl : r.now.length = nn := hnw.out.len
  have HNL := hI hnl; clear hnl
  by_cases hin0 : 0 ≤ x
  ·obtain ⟨s, rfl⟩ : ∃ s : Nat, x = s := ⟨x.toNat, by omega⟩
   have hfin : finM l ws r = false := by
    unfold finM; rw [HM.out, hra.out]; simp
   have HFIN := hI hfin; clear hfin
   gi_wp2_with (refine load_lawIn rfl (.tmp 2) rfl bl l a rfl R1.out ?_)
   refine ⟨trivial, ?_⟩
   refine (callsIn_wide.2 (hit_c l a An nn cn r.now s wr R5.out hnw.out R7.out (by omega) (by omega) hk)).mono ?_
   rintro e w1 ⟨rfl, hb1⟩
   have hb1s := hb1.size
   have HJ1 := hI (HU.out.hst _ _ _ _ HJ.out (keep_of_below (S := fun k => W.heap.size ≤ k ∧ ¬ T.all k) hb1))
   have G51 := hI ((hb1.block _ (lt_of_block hg5.out)).trans hg5.out)
   have G61 := hI ((hb1.block _ hwr).trans hg6.out)
   have HNOW1 := hI (hnow.out.keep (S := fun _ => False) (T' := T.w) (keep_of_below hb1) (fun b _ _ h => ⟨fun h => h, h⟩))
   have R31 := hI ((hb1.block _ (lt_of_block R3.out)).trans R3.out)
   have R41 := hI ((hb1.block _ (lt_of_block R4.out)).trans R4.out)
   have R11 := hI ((hb1.block _ hblr).trans R1.out)
   have R51 := hI (R5.out.below hb1 rr)
   have R61 := hI (R6.out.below hb1 rr)
   have R71 := hI (R7.out.below hb1 rr)
   clear hb1 e3 e4 e5 e6 f6
   cases hh : hitM l r.now s with
   | false =>
    have hst : stepM l ws r = (none, { r with at_ := r.at_ - 1 }) := by
     unfold stepM; rw [HM.out, hra.out]; simp [hh]
    have HST := hI hst; clear hst hh
    have e61 := cell_of_one G61.out
    have e60 := cell_of_one hg6.out
    gi_wp2
    go_roundw
    case rel =>
     exact ⟨(s : Int) - 1, { r with at_ := r.at_ - 1 }, T, An, nn, cn, rfl, by show r.at_ - 1 = _; rw [hra.out], hnn, by omega, by omega, HU.out.hskip _ _ _ _ HFIN.out HST.out HJ1.out, G51, G61, HNOW1, hTb⟩
    case measure => simp [intOf]
   | true =>
    have HH := hI hh
    have hin : s + l.ifs.length ≤ nn := by
     unfold hitM at hh
     simp only [Bool.and_eq_true, decide_eq_true_eq] at hh
     rw [HNL.out] at hh
     exact hh.1.1
    clear hh
    have hnw1 := hI (HNOW1.out.word R61.out)
    have e61 := cell_of_one G61.out
    have e31 := cell_of_one R31.out
    have e41 := cell_of_one R41.out
    gi_wp2_with (refine load_lawIn rfl (.tmp 2) rfl bl l a rfl R11.out ?_)
    refine ⟨trivial, ?_⟩
    refine (callsIn_wide.2 (replace_c l a An nn cn r.now s w1 R51.out hnw1.out HF.out ho hin (by omega))).mono ?_
    rintro e w2 ⟨A2, n2, c2, rfl, hw2, hb2, hfr⟩
    have hb2s := hb2.size
    have g52 := (hb2.block _ (lt_of_block G51.out)).trans G51.out
    have g62 := (hb2.block _ (lt_of_block G61.out)).trans G61.out
    have hK2 : Keep (fun k => W.heap.size ≤ k ∧ ¬ T.all k) w1 (w2.setCell ⟨W.heap.size + 1, 0, none⟩ (.slice A2 n2 c2)) := (keep_of_below hb2).setCell (p := ⟨W.heap.size + 1, 0, none⟩) ⟨by simp, hTb.out.2⟩ _
    have HJ3 := hI (HU.out.hst _ _ _ _ HJ1.out hK2)
    have hw3 : IsWord (w2.setCell ⟨W.heap.size + 1, 0, none⟩ (.slice A2 n2 c2)) A2 n2 c2 (replaceM l r.now s) := hw2.keep (S := fun k => k = W.heap.size + 1) ((Keep.refl (fun k => k = W.heap.size + 1) _).setCell (p := ⟨W.heap.size + 1, 0, none⟩) rfl _) (fun _ ad had h => by have := hfr ad had; omega)
    have hA2 : ∀ ad, A2 = some ad → w1.heap.size ≤ ad.block := hfr
    have G53 := hI ((Below.heap_setCell w2 ⟨W.heap.size + 1, 0, none⟩ (.slice A2 n2 c2) W.heap.size (by simp)).trans g52)
    have G63 := hI (one_setCell (u := .slice A2 n2 c2) g62)
    have f62 := free_of_one g62
    have e62 := cell_of_one g62
    have e52 := cell_of_one g52
    have hst : stepM l ws r = (some ((s : Int), replaceM l r.now s), ⟨(s : Int) - max (l.ifs.length : Int) 1, r.next, r.shift, replaceM l r.now s⟩) := by
     unfold stepM; rw [HM.out, hra.out]; simp [HH.out]
    have HST := hI hst; clear hst
    obtain ⟨fn, tmps, assign, body, hyr, hR⟩ := yield_any (m' := m - 1) (HU.out.hy r T _ _ _ _ A2 n2 c2 HFIN.out HST.out hw3 (fun ad had => by have h1 := hA2 ad had; exact ⟨by omega, fun h => by have := HU.out.hlt _ _ _ HJ1.out _ h; omega⟩) HJ3.out)
    have HR := hI hR; clear hR
    have HW3 := hI hw3; clear hw3
    have HA2 := hI hA2
    clear hA2 hfr hb2 hw2 g52 g62 hK2 e61 e31 e41
    gi_wp2
    refine HR.out.mono ?_
    rintro e W4 (⟨rfl, hlen, T', hJ', hKp, hT', hTA⟩ | ⟨rfl, hx, _⟩)
    ·obtain ⟨q1, q2, q3, q4, q5, q6, q7⟩ := HU.out.hrd _ _ _ hJ'
     have e34 := cell_of_one q3
     have e44 := cell_of_one q4
     have HJ4 := hI hJ'
     have hl2 := HW3.out.len
     have hn2 : n2 = nn - l.ifs.length + l.outs.length := by
      rw [← hl2]; unfold replaceM putM
      have := HNL.out
      simp; omega
     have hKs := hKp.size
     have g54 := hI ((hKp.block _ (lt_of_block G53.out) (fun h => hTb.out.1 (.inl h))).trans G53.out)
     have g64 := hI ((hKp.block _ (lt_of_block G63.out) (fun h => hTb.out.2 (.inl h))).trans G63.out)
     have hTl := HU.out.hlt _ _ _ HJ1.out
     have h61 := lt_of_block G61.out
     have hnT : 0 < n2 → ∀ ad, A2 = some ad → W.heap.size + 1 < ad.block ∧ ¬ T.w ad.block ∧ ad.block < (w2.setCell ⟨W.heap.size + 1, 0, none⟩ (.slice A2 n2 c2)).heap.size := by
      intro hn ad had
      obtain ⟨b, off, hb, hlt, _⟩ := HW3.out.2.2.2.2 hn
      have h1 := HA2.out ad had
      rw [had] at hb
      injection hb with hb
      subst hb
      exact ⟨by omega, fun h => by have := hTl _ (.inl h); omega, hlt⟩
     have hA4 : 0 < n2 → ∀ ad, A2 = some ad → W.heap.size + 1 < ad.block ∧ ¬ T'.w ad.block ∧ ad.block < W4.heap.size := fun hn ad had =>
      ⟨(hnT hn ad had).1, fun h => (hT' _ h).elim (hnT hn ad had).2.1 (fun h2 => by have := (hnT hn ad had).2.2; omega), Nat.lt_of_lt_of_le (hnT hn ad had).2.2 hKs⟩
     have hw4 : IsWord W4 A2 n2 c2 (replaceM l r.now s) := HW3.out.keep hKp (fun hn ad had => (hnT hn ad had).2.1)
     clear hnT hTl h61
     have hTb4 : ¬ T'.all W.heap.size ∧ ¬ T'.all (W.heap.size + 1) := by
      have h1 := lt_of_block G63.out
      exact ⟨fun h => (hTA _ h).elim hTb.out.1 (fun h2 => h2.elim (fun h2 => by omega) (fun ⟨hn, ad, had, hb⟩ => by have := (hA4 hn ad had).1; omega)), fun h => (hTA _ h).elim hTb.out.2 (fun h2 => h2.elim (fun h2 => by omega) (fun ⟨hn, ad, had, hb⟩ => by have := (hA4 hn ad had).1; omega))⟩
     have HTB4 := hI hTb4
     have HW4 := hI hw4
     have HA4 := hI hA4
     have HLEN := hI hlen
     have HN2 := hI hn2
     have HL2 := hI hl2
     have e64 := cell_of_one g64.out
     have e60 := cell_of_one hg6.out
     clear q1 q2 q3 q4 q5 q6 q7 hJ' hKp hT' hTA hTb4 hw4 hA4 hlen hn2 hl2 e62 e52 f62 hyr
     by_cases hk0 : 1 ≤ l.ifs.length
     ·have hmx : max (l.ifs.length : Int) 1 = l.ifs.length := by omega
      have hk1 : (1 : Int) ≤ (l.ifs.length : Int) := by omega
      have HMX := hI hmx; clear hmx
      gi_wp2
      go_roundw
      case rel =>
       refine ⟨(s : Int) - max (l.ifs.length : Int) 1, _, T', A2, n2, c2, rfl, ?_, by have := HL2.out; have := HLEN.out; omega, by omega, by omega, HJ4, g54, g64, .inr ⟨HW4.out, HA4.out⟩, HTB4⟩
       show _ = _
       rfl
      case measure => simp only [intOf]; omega
     ·have hmx : max (l.ifs.length : Int) 1 = 1 := by omega
      have hk1 : (l.ifs.length : Int) < 1 := by omega
      have HMX := hI hmx; clear hmx
      gi_wp2
      go_roundw
      case rel =>
       refine ⟨(s : Int) - max (l.ifs.length : Int) 1, _, T', A2, n2, c2, rfl, ?_, by have := HL2.out; have := HLEN.out; omega, by omega, by omega, HJ4, g54, g64, .inr ⟨HW4.out, HA4.out⟩, HTB4⟩
       show _ = _
       rfl
      case measure => simp only [intOf]; omega
    ·have HX := hI hx; clear hx
     gi_wp2
     refine bodyPost_ret (results_none rfl _ _ _) rfl ?_
     exact ⟨⟨_, rfl⟩, .inr ⟨r, T, HX.out⟩⟩
  ·have hfin : finM l ws r = true := by
    unfold finM; rw [HM.out, hra.out]; simp; omega
   have HFIN := hI hfin; clear hfin
   gi_wp2
   go_end0
   exact ⟨⟨_, rfl⟩, .inl ⟨r, HFIN.out, T, HJ.out⟩⟩
end Go.Proofs.YtaglfmlgbcmakaaGreatDoor

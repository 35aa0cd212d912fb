/-
  ablautref08: right, left.
  ablautref08: left.
  ablautref08: all: what it keeps.
  ablautref08: all.
  ablautref08: Trace, Apply.
-/
import Derived.Test.YtcpcojgmmpnkoaaGreatDoorG26
import Derived.Test.YtcpcojgmmpnkoaaGreatDoorG38
set_option linter.all false
set_option maxRecDepth 100000
set_option maxHeartbeats 4000000
namespace Go.Proofs.YtcpcojgmmpnkoaaGreatDoor
open Go.RowKit Go.Shelf
structure TrOK (w : World) (B : Nat) (vp vw : Value) (np : Nat) (ps : List Part) : Prop where
 op : ∃ xs, w.ownsRow B 3 1 vp np xs
 ow : w.ownsRow B 32 1 vw ps.length (ps.map Part.val)
 ne : ∀ k, vp.ownBlock = some k → ¬ vw.ownBlock = some k
 pp : ∀ p ∈ ps, Away vp w p ∧ Away vw w p
 sz : B ≤ w.heap.size
theorem TrOK.nil (w : World) : TrOK w w.heap.size (.slice none 0 0) (.slice none 0 0) 0 [] :=
 ⟨⟨[], World.ownsRow_nil _ _ _ _⟩, World.ownsRow_nil _ _ _ _, fun k h => (by cases h), fun p hp => by simp at hp, rr⟩
theorem TrOK.below {w w' : World} {B np : Nat} {vp vw : Value} {ps : List Part} (h : TrOK w B vp vw np ps) (hb : Below w.heap.size w w') : TrOK w' B vp vw np ps := by
 obtain ⟨xs, ho⟩ := h.op
 exact ⟨⟨xs, own_heap ho fun k e => hb.block k (ho.lt k e).2⟩, own_heap h.ow fun k e => hb.block k (h.ow.lt k e).2, h.ne, fun p hp => ⟨(h.pp p hp).1.below hb, (h.pp p hp).2.below hb⟩, Nat.le_trans h.sz hb.size⟩
theorem TrOK.lts {w : World} {B np : Nat} {vp vw : Value} {ps : List Part} (h : TrOK w B vp vw np ps) : (∀ k, vp.ownBlock = some k → B ≤ k ∧ k < w.heap.size) ∧ ∀ k, vw.ownBlock = some k → B ≤ k ∧ k < w.heap.size := by
 obtain ⟨xs, ho⟩ := h.op
 exact ⟨fun k e => ho.lt k e, fun k e => h.ow.lt k e⟩
theorem TrOK.pushP {w X : World} {B np : Nat} {vp vp' vw : Value} {ps : List Part} {xs : List Value} (h : TrOK w B vp vw np ps) (hown : X.ownsRow B 3 1 vp' (np + 1) xs) (hg : w.grownBy X vp.ownBlock)
  (hat : vp'.ownBlock = vp.ownBlock ∨ vp'.ownBlock = some w.heap.size) : TrOK X B vp' vw (np + 1) ps := by
 refine ⟨⟨xs, hown⟩, own_heap h.ow fun k e => hg.block k (h.ow.lt k e).2 (fun e' => h.ne k e'.symm e), fun k e e' => ?_, fun p hp => ⟨(h.pp p hp).1.grown hg hat, (h.pp p hp).1.word_grown hg, (h.pp p hp).2.2⟩, Nat.le_trans h.sz hg.size⟩
 rcases hat with q | q
 ·exact h.ne k (q ▸ e) e'
 ·rw [q] at e; injection e with e; have := (h.ow.lt k e').2; omega
theorem TrOK.pushW {w X : World} {B np : Nat} {vp vw vw' : Value} {ps : List Part} {q : Part} (h : TrOK w B vp vw np ps) (hq : Away vp w q ∧ Away vw w q) (hown : X.ownsRow B 32 1 vw' (ps.length + 1) (ps.map Part.val ++ [q.val])) (hg : w.grownBy X vw.ownBlock)
  (hat : vw'.ownBlock = vw.ownBlock ∨ vw'.ownBlock = some w.heap.size) : TrOK X B vp vw' np (ps ++ [q]) ∧ Away vp X q ∧ Away vw' X q := by
 obtain ⟨xs, ho⟩ := h.op
 refine ⟨⟨⟨xs, own_heap ho fun k e => hg.block k (ho.lt k e).2 (fun e' => h.ne k e e'.symm)⟩, by simpa using hown, fun k e e' => ?_, fun p hp => ?_, Nat.le_trans h.sz hg.size⟩, ⟨hq.2.word_grown hg, hq.1.2⟩, hq.2.grown hg hat⟩
 ·rcases hat with u | u
  ·exact h.ne k e (u ▸ e')
  ·rw [u] at e'; injection e' with e'; have := (ho.lt k e).2; omega
 ·rcases List.mem_append.1 hp with hp | hp
  ·exact ⟨⟨(h.pp p hp).2.word_grown hg, (h.pp p hp).1.2⟩, (h.pp p hp).2.grown hg hat⟩
  ·obtain rfl : p = q := by simpa using hp
   exact ⟨⟨hq.2.word_grown hg, hq.1.2⟩, hq.2.grown hg hat⟩
theorem TrOK.fresh {w w' : World} {B np : Nat} {vp vw : Value} {ps : List Part} {q : Part} (h : TrOK w B vp vw np ps) (hq : IsWord w' q.1 q.2.1 q.2.2.1 q.2.2.2) (hf : ∀ ad, q.1 = some ad → w.heap.size ≤ ad.block) : Away vp w' q ∧ Away vw w' q :=
 ⟨⟨hq, fun ad had _ e => by have := (h.lts.1 _ e).2; have := hf ad had; omega⟩, hq, fun ad had _ e => by have := (h.lts.2 _ e).2; have := hf ad had; omega⟩
theorem TrOK.words {w : World} {B np n c : Nat} {vp : Value} {A : Option Addr} {ps : List Part} (h : TrOK w B vp (.slice A n c) np ps) (hn : n = ps.length) : IsWords w A n c (ps.map Part.word) := by
 subst hn
 exact IsWords.mk (Cells.of_own h.ow (by decide)) (fun p hp => (h.pp p hp).1.1)
def trM (l : LawD) (ws : List Snd) : Int × List (List Snd) := if (runM l ws 80 (startM l ws)).2 then (11, []) else (0, (runM l ws 80 (startM l ws)).1.map (·.2))
def RetTr (w : World) (r : Int × List (List Snd)) (e : Ending) (w' : World) : Prop :=
 ∃ vp A n c, e = .returned (.tuple #[vp, .slice A n c, .int .i64 r.1]) ∧ IsWords w' A n c r.2 ∧ Below w.heap.size w w'
def lenV : Value → Nat
 | .slice _ n _ => n
 | _ => 0
theorem r8right_c (l : LawD) (a : LawA) (A : Option Addr) (n c : Nat) (ws : List Snd) (w : World) (hl : LawAt w l a) (hw : IsWord w A n c ws) (hu : LawU l) (hwu : WordU ws) (hv : lawE l = 0) (hck : wcheck ws = 0) (hmode : l.mode = 2) :
  Calls Tryz.prog 198 #[lawV l a, .slice A n c] w (RetTr w (trM l ws)) := by
 obtain ⟨hk4, hm6, hmm, hfit⟩ := law_ok hv
 obtain ⟨hn32, hwo⟩ := wcheck_iff.1 hck
 have hwl : ws.length = n := hw.len
 rw [hwl] at hn32
 have H2 : Hid (l.mode ≠ 1) := by show _ ≠ _; rw [hmode]; decide
 have H3 : Hid (l.mode = 2) := hmode
 have HMM := hI hmm
 have HS0 := hI (SoFar.start l ws (by omega))
 have HST : Hid (startM l ws = ⟨0, 0, 0, ws⟩) := by show _ = _; unfold startM; rw [if_neg (by rw [hmode]; decide)]
 have HFIT := hI hfit; clear hfit
 have HL := hI hl; clear hl
 have HU := hI hu; clear hu
 have HV := hI hv; clear hv hmm hck hmode hwl
 obtain ⟨Wb, hWb, hrb, hlb, hBb, hzb⟩ := law_box w l a
 obtain ⟨d0, d1, d2, d3⟩ := law_reads hrb
 have HRB := hI hrb; clear hrb
 have HLB := hI hlb; clear hlb
 have HLb : Hid (LawAt Wb l a) := HL.out.below hBb rr
 have HW : Hid (IsWord Wb A n c ws) := hw.below hBb rr
 clear hw HL
 have HGO : Hid (WordU ws ∧ OkW ws) := ⟨hwu, hwo⟩
 clear hwu hwo
 go_enter Tryz.func198, Tryz.ntmps198
 go_wp2_with fail
 clear hWb d0 d1 d2 d3
 go_loopw [1, 7, 8, 10] (fun u1 vp vw i wr => ∃ (p : Nat) (nx sh : Int) (now : List Snd) (done : List (Int × List Snd)) (ps : List Part) (A1 : Option Addr) (n1 c1 : Nat), u1 = .slice A1 n1 c1 ∧ i = .int .i64 p ∧ Hid (TrOK wr Wb.heap.size vp vw done.length ps) ∧ Hid (ps.map Part.word = done.map (·.2)) ∧
  Hid (SoFar l ws ⟨p, nx, sh, now⟩ done) ∧ Hid (Away vp wr (A1, n1, c1, now) ∧ Away vw wr (A1, n1, c1, now)) ∧ n1 ≤ 32 ∧ p ≤ 33 ∧ Hid (WordU now ∧ OkW now) ∧ Below Wb.heap.size Wb wr) (fun u1 _ _ i _ => lenV u1 + 1 - (intOf i).toNat)
 case atStart => exact ⟨0, 0, 0, ws, [], [], A, n, c, rfl, rfl, TrOK.nil _, rfl, (by show SoFar _ _ _ _; have := HS0.out; rwa [HST.out] at this), ⟨⟨HW.out, fun ad _ _ h => by cases h⟩, HW.out, fun ad _ _ h => by cases h⟩, hn32, by omega, HGO, Below.refl _ _⟩
 case round =>
  obtain ⟨p, nx, sh, now, done, ps, A1, n1, c1, rfl, rfl, htr, hpw, hso, haw, hn1, hp, hgo, hB⟩ := hrel
  have hBs := hB.size
  have hr1 := (hB.block _ HLB.out).trans HRB.out
  have hnl : Hid (now.length = n1) := haw.out.1.1.len
  have hL1 := (HLb.out.below hB rr)
  have HL1 := hI hL1; clear hL1
  have H1 := hI hr1; clear hr1
  by_cases hfin : p + l.ifs.length ≤ n1
  ·have hfm : finM l ws ⟨p, nx, sh, now⟩ = false := by unfold finM; rw [if_neg H2.out, if_pos H3.out]; have := hnl.out; simp; omega
   have HFM := hI hfm; clear hfm
   have hfin' : (p : Int) + (l.ifs.length : Int) ≤ (n1 : Int) := by omega
   go_wp2_with (refine load_law rfl (.tmp 2) rfl w.heap.size l a rfl H1.out ?_)
   refine (r8Hit_c l a A1 n1 c1 now p wr HL1.out haw.out.1.1 HU.out hgo.out.1 (by omega) (by omega) (by omega)).mono ?_
   rintro e w2 ⟨rfl, hb2⟩
   have hB2 := hB.trans (hb2.mono hBs)
   have H1b : Hid (w2.heap[w.heap.size]? = some (.cells (lawCs l a) 34 (0, 0))) := (hb2.block _ (lt_of_block H1.out)).trans H1.out
   have HL2 : Hid (LawAt w2 l a) := HL1.out.below hb2 rr
   have htr2 : Hid (TrOK w2 Wb.heap.size u7 u8 done.length ps) := htr.out.below hb2
   have haw2 : Hid (Away u7 w2 (A1, n1, c1, now) ∧ Away u8 w2 (A1, n1, c1, now)) := ⟨haw.out.1.below hb2, haw.out.2.below hb2⟩
   clear hb2 HL1 H1 htr haw
   cases hh : hitM l now p with
   | false =>
    have hs2 : Hid (SoFar l ws ⟨(p + 1 : Nat), nx, sh, now⟩ done) := by
     refine hso.out.skip HMM.out HFM.out ?_
     unfold stepM
     rw [if_neg H2.out, if_pos H3.out, if_neg (by rw [Int.toNat_natCast, hh]; decide)]
     simp
    clear hh
    go_wp2
    go_roundw
    case rel => exact ⟨p + 1, nx, sh, now, done, ps, A1, n1, c1, rfl, by go_num, htr2, hpw, hs2, haw2, hn1, by omega, hgo, hB2⟩
    case measure => simp [intOf, lenV]; omega
   | true =>
    have hst : stepM l ws ⟨p, nx, sh, now⟩ = (some ((p : Int), replaceM l now p), ⟨(p : Int) + l.outs.length + (if l.ifs.length = 0 then 1 else 0), nx, sh, replaceM l now p⟩) := by
     unfold stepM
     rw [if_neg H2.out, if_pos H3.out, if_pos (by rw [Int.toNat_natCast, hh])]
     rfl
    have HST1 := hI hst; clear hst
    have hlen := replaceM_len hh
    have HH := hI hh; clear hh
    go_wp2_with (refine load_law rfl (.tmp 2) rfl w.heap.size l a rfl H1b.out ?_)
    refine (r8replace_c l a A1 n1 c1 now p w2 HL2.out haw2.out.1.1 HFIT.out (by omega) hfin (by omega) HU.out hgo.out.1 hgo.out.2).mono ?_
    rintro e w3 ⟨A3, n3, c3, rfl, hw3, hb3, hf3⟩
    have hB3 := hB2.trans (hb3.mono hB2.size)
    have H1c : Hid (w3.heap[w.heap.size]? = some (.cells (lawCs l a) 34 (0, 0))) := (hb3.block _ (lt_of_block H1b.out)).trans H1b.out
    have htr3 : Hid (TrOK w3 Wb.heap.size u7 u8 done.length ps) := htr2.out.below hb3
    have haw3 : Hid (Away u7 w3 (A3, n3, c3, replaceM l now p) ∧ Away u8 w3 (A3, n3, c3, replaceM l now p)) := htr2.out.fresh hw3 hf3
    have hgo3 : Hid (WordU (replaceM l now p) ∧ OkW (replaceM l now p)) := ⟨replaceM_u hgo.out.1, replaceM_ok HV.out hgo.out.2⟩
    have hn3 : n3 + l.ifs.length = n1 + l.outs.length := by have h1 := hw3.len; have h2 := hnl.out; omega
    have hw3l : Hid ((replaceM l now p).length = n3) := hw3.len
    clear hb3 hf3 hw3 htr2 haw2 HL2 H1b hlen
    by_cases h32 : 32 < n3
    ·have hres : trM l ws = (11, []) := by unfold trM; rw [if_pos (hso.out.long HMM.out HFM.out HST1.out (by rw [hw3l.out]; exact h32))]
     have HRES := hI hres; clear hres
     go_wp2
     go_ret3
     refine ⟨.slice none 0 0, none, 0, 0, ?_, ?_, hBb.trans (hB3.mono hBb.size)⟩
     ·rw [HRES.out]; rfl
     ·rw [HRES.out]; exact IsWords.nil _
    ·have hs3 : Hid (SoFar l ws ⟨(p : Int) + l.outs.length + (if l.ifs.length = 0 then 1 else 0), nx, sh, replaceM l now p⟩ (done ++ [((p : Int), replaceM l now p)])) := hso.out.step HMM.out HFM.out HST1.out (by rw [hw3l.out]; omega)
     have hdl : done.length ≤ 80 := done_len hso.out
     have hps : ps.length = done.length := by have := congrArg List.length hpw.out; simpa using this
     have HPS := hI hps
     have hpl : ps.length ≤ 80 := by omega
     clear hps
     obtain ⟨xs, hop⟩ := htr3.out.op
     have HOP := hI hop; clear hop
     go_wp2_with (at_builtin; refine append_int rfl (.tmp 34) (.tmp 36) rfl Wb.heap.size u7 done.length xs rfl (HOP.out.alloc _) ⟨w3.heap.size, 0, none⟩ 1 (.int .i64 p) rfl (cell_one_new _ _ _) rfl (by omega) ?hz1 ?hc1)
     case hz1 => have := hB3.size; simp; omega
     case hc1 =>
      intro v4 w4 hown4 hg4 hat4
      have HAT4 : v4.ownBlock = u7.ownBlock ∨ v4.ownBlock = some (w3.alloc (.cells #[.int .i64 p] 3)).heap.size := hat4.imp id (fun e => e.trans (by simp))
      have hba : Below w3.heap.size w3 (w3.alloc (.cells #[.int .i64 p] 3)) := (Below.refl _ _).alloc rr _
      have htr4 : Hid (TrOK w4 Wb.heap.size v4 u8 (done.length + 1) ps) := (htr3.out.below hba).pushP hown4 hg4 HAT4
      have haw4 : Hid (Away v4 w4 (A3, n3, c3, replaceM l now p) ∧ Away u8 w4 (A3, n3, c3, replaceM l now p)) := ⟨(haw3.out.1.below hba).grown hg4 HAT4, (haw3.out.1.below hba).word_grown hg4, haw3.out.2.2⟩
      have hlt4 := (htr3.out.below hba).lts.1
      have hB4 : Below Wb.heap.size Wb w4 := (hB3.trans (hba.mono hB3.size)).grown hg4 (by have := hB3.size; simp; omega) (fun k hk => (hlt4 k hk).1)
      have H1d : Hid (w4.heap[w.heap.size]? = some (.cells (lawCs l a) 34 (0, 0))) := (hB4.block _ HLB.out).trans HRB.out
      clear hown4 hg4 hat4 hlt4 hba htr3 haw3 HOP H1c
      go_wp2_with (at_builtin; refine append_wd rfl (.tmp 38) (.tmp 40) rfl Wb.heap.size u8 ps.length _ rfl (htr4.out.ow.alloc _) ⟨w4.heap.size, 0, none⟩ 1 (.slice A3 n3 c3) rfl (cell_one_new _ _ _) rfl (by omega) ?hz2 ?hc2)
      case hz2 => have := hB4.size; simp; omega
      case hc2 =>
       intro v5 w5 hown5 hg5 hat5
       have HAT5 : v5.ownBlock = u8.ownBlock ∨ v5.ownBlock = some (w4.alloc (.cells #[.slice A3 n3 c3] 32)).heap.size := hat5.imp id (fun e => e.trans (by simp))
       have hba : Below w4.heap.size w4 (w4.alloc (.cells #[.slice A3 n3 c3] 32)) := (Below.refl _ _).alloc rr _
       have h5 := (htr4.out.below hba).pushW (q := (A3, n3, c3, replaceM l now p)) ⟨haw4.out.1.below hba, haw4.out.2.below hba⟩ hown5 hg5 HAT5
       have H5 := hI h5; clear h5
       have hlt5 := (htr4.out.below hba).lts.2
       have hB5 : Below Wb.heap.size Wb w5 := (hB4.trans (hba.mono hB4.size)).grown hg5 (by have := hB4.size; simp; omega) (fun k hk => (hlt5 k hk).1)
       have H1e : Hid (w5.heap[w.heap.size]? = some (.cells (lawCs l a) 34 (0, 0))) := (hB5.block _ HLB.out).trans HRB.out
       have hpw5 : Hid ((ps ++ [((A3, n3, c3, replaceM l now p) : Part)]).map Part.word = (done ++ [((p : Int), replaceM l now p)]).map (·.2)) := by show _ = _; rw [List.map_append, List.map_append, hpw.out]; rfl
       have htr5 : Hid (TrOK w5 Wb.heap.size v4 v5 (done ++ [((p : Int), replaceM l now p)]).length (ps ++ [((A3, n3, c3, replaceM l now p) : Part)])) := by show TrOK _ _ _ _ _ _; rw [List.length_append]; exact H5.out.1
       clear hown5 hg5 hat5 hlt5 hba htr4 haw4 H1d
       obtain ⟨d0, d1, d2, d3⟩ := law_reads H1e.out
       by_cases hk0 : l.ifs.length = 0
       ·have hs6 : Hid (SoFar l ws ⟨(p + l.outs.length + 1 : Nat), nx, sh, replaceM l now p⟩ (done ++ [((p : Int), replaceM l now p)])) := by
         have := hs3.out
         rw [if_pos hk0] at this
         show SoFar _ _ _ _
         rw [show ((p + l.outs.length + 1 : Nat) : Int) = (p : Int) + l.outs.length + 1 by omega]
         exact this
        have hk0' : ((l.ifs.length : Int) == 0) = true := by rw [hk0]; rfl
        have hk0'' : l.ifs.length ≤ 0 := by omega
        clear hk0
        go_wp2
        go_roundw
        case rel => exact ⟨p + l.outs.length + 1, nx, sh, replaceM l now p, _, _, A3, n3, c3, rfl, by go_num, htr5, hpw5, hs6, ⟨H5.out.2.1, H5.out.2.2⟩, by omega, by omega, hgo3, hB5⟩
        case measure => simp [intOf, lenV]; omega
       ·have hs6 : Hid (SoFar l ws ⟨(p + l.outs.length : Nat), nx, sh, replaceM l now p⟩ (done ++ [((p : Int), replaceM l now p)])) := by
         have := hs3.out
         rw [if_neg hk0] at this
         show SoFar _ _ _ _
         rw [show ((p + l.outs.length : Nat) : Int) = (p : Int) + l.outs.length + 0 by omega]
         exact this
        have hk0' : ((l.ifs.length : Int) == 0) = false := by simpa using hk0
        have hk0'' : 1 ≤ l.ifs.length := by omega
        clear hk0
        go_wp2
        go_roundw
        case rel => exact ⟨p + l.outs.length, nx, sh, replaceM l now p, _, _, A3, n3, c3, rfl, by go_num, htr5, hpw5, hs6, ⟨H5.out.2.1, H5.out.2.2⟩, by omega, by omega, hgo3, hB5⟩
        case measure => simp [intOf, lenV]; omega
  ·have hfm : finM l ws ⟨p, nx, sh, now⟩ = true := by unfold finM; rw [if_neg H2.out, if_pos H3.out]; have := hnl.out; simp; omega
   have hres : trM l ws = (0, done.map (·.2)) := by unfold trM; rw [hso.out.fin hfm]; rfl
   have HRES := hI hres; clear hres hfm
   have hfin' : ¬ ((p : Int) + (l.ifs.length : Int) ≤ (n1 : Int)) := by omega
   obtain ⟨A8, c8, rfl⟩ := own_form htr.out.ow
   go_wp2
   go_ret3
   refine ⟨u7, A8, ps.length, c8, ?_, ?_, hBb.trans (hB.mono hBb.size)⟩
   ·rw [HRES.out]; rfl
   ·rw [HRES.out]; show IsWords _ _ _ _ (done.map (·.2)); rw [← hpw.out]; exact htr.out.words rfl
theorem r8left_c (l : LawD) (a : LawA) (A : Option Addr) (n c : Nat) (ws : List Snd) (w : World) (hl : LawAt w l a) (hw : IsWord w A n c ws) (hu : LawU l) (hwu : WordU ws) (hv : lawE l = 0) (hck : wcheck ws = 0) (hmode : l.mode = 3) :
  Calls Tryz.prog 199 #[lawV l a, .slice A n c] w (RetTr w (trM l ws)) := by
 obtain ⟨hk4, hm6, hmm, hfit⟩ := law_ok hv
 obtain ⟨hn32, hwo⟩ := wcheck_iff.1 hck
 have hwl : ws.length = n := hw.len
 rw [hwl] at hn32
 have H2 : Hid (l.mode ≠ 1) := by show _ ≠ _; rw [hmode]; decide
 have H22 : Hid (l.mode ≠ 2) := by show _ ≠ _; rw [hmode]; decide
 have H3 : Hid (l.mode = 3) := hmode
 have HMM := hI hmm
 have HS0 := hI (SoFar.start l ws (by omega))
 have HST : Hid (startM l ws = ⟨(n : Int) - l.ifs.length, 0, 0, ws⟩) := by show _ = _; unfold startM; rw [if_pos hmode, hwl]
 have HFIT := hI hfit; clear hfit
 have HL := hI hl; clear hl
 have HU := hI hu; clear hu
 have HV := hI hv; clear hv hmm hck hmode hwl
 obtain ⟨Wb, hWb, hrb, hlb, hBb, hzb⟩ := law_box w l a
 obtain ⟨d0, d1, d2, d3⟩ := law_reads hrb
 have HRB := hI hrb; clear hrb
 have HLB := hI hlb; clear hlb
 have HLb : Hid (LawAt Wb l a) := HL.out.below hBb rr
 have HW : Hid (IsWord Wb A n c ws) := hw.below hBb rr
 clear hw HL
 have HGO : Hid (WordU ws ∧ OkW ws) := ⟨hwu, hwo⟩
 clear hwu hwo
 go_enter Tryz.func199, Tryz.ntmps199
 go_wp2_with fail
 clear hWb d0 d1 d2 d3
 go_loopw [1, 7, 8, 10] (fun u1 vp vw i wr => ∃ (q : Int) (nx sh : Int) (now : List Snd) (done : List (Int × List Snd)) (ps : List Part) (A1 : Option Addr) (n1 c1 : Nat), u1 = .slice A1 n1 c1 ∧ i = .int .i64 q ∧ Hid (TrOK wr Wb.heap.size vp vw done.length ps) ∧ Hid (ps.map Part.word = done.map (·.2)) ∧
  Hid (SoFar l ws ⟨q, nx, sh, now⟩ done) ∧ Hid (Away vp wr (A1, n1, c1, now) ∧ Away vw wr (A1, n1, c1, now)) ∧ n1 ≤ 32 ∧ q ≤ 33 ∧ -40 ≤ q ∧ Hid (WordU now ∧ OkW now) ∧ Below Wb.heap.size Wb wr) (fun _ _ _ i _ => (intOf i + 1).toNat)
 case atStart => exact ⟨(n : Int) - l.ifs.length, 0, 0, ws, [], [], A, n, c, rfl, rfl, TrOK.nil _, rfl, (by show SoFar _ _ _ _; have := HS0.out; rwa [HST.out] at this), ⟨⟨HW.out, fun ad _ _ h => by cases h⟩, HW.out, fun ad _ _ h => by cases h⟩, hn32, by omega, by omega, HGO, Below.refl _ _⟩
 case round =>
  obtain ⟨q, nx, sh, now, done, ps, A1, n1, c1, rfl, rfl, htr, hpw, hso, haw, hn1, hp, hp2, hgo, hB⟩ := hrel
  have hBs := hB.size
  have hr1 := (hB.block _ HLB.out).trans HRB.out
  have hnl : Hid (now.length = n1) := haw.out.1.1.len
  have hL1 := (HLb.out.below hB rr)
  have HL1 := hI hL1; clear hL1
  have H1 := hI hr1; clear hr1
  by_cases hfin : 0 ≤ q
  ·obtain ⟨p, rfl⟩ : ∃ p : Nat, q = p := ⟨q.toNat, by omega⟩
   clear hfin
   have hfm : finM l ws ⟨p, nx, sh, now⟩ = false := by unfold finM; rw [if_neg H2.out, if_neg H22.out, if_pos H3.out]; simp
   have HFM := hI hfm; clear hfm
   go_wp2_with (refine load_law rfl (.tmp 2) rfl w.heap.size l a rfl H1.out ?_)
   refine (r8Hit_c l a A1 n1 c1 now p wr HL1.out haw.out.1.1 HU.out hgo.out.1 (by omega) (by omega) (by omega)).mono ?_
   rintro e w2 ⟨rfl, hb2⟩
   have hB2 := hB.trans (hb2.mono hBs)
   have H1b : Hid (w2.heap[w.heap.size]? = some (.cells (lawCs l a) 34 (0, 0))) := (hb2.block _ (lt_of_block H1.out)).trans H1.out
   have HL2 : Hid (LawAt w2 l a) := HL1.out.below hb2 rr
   have htr2 : Hid (TrOK w2 Wb.heap.size u7 u8 done.length ps) := htr.out.below hb2
   have haw2 : Hid (Away u7 w2 (A1, n1, c1, now) ∧ Away u8 w2 (A1, n1, c1, now)) := ⟨haw.out.1.below hb2, haw.out.2.below hb2⟩
   clear hb2 HL1 H1 htr haw
   cases hh : hitM l now p with
   | false =>
    have hs2 : Hid (SoFar l ws ⟨(p : Int) - 1, nx, sh, now⟩ done) := by
     refine hso.out.skip HMM.out HFM.out ?_
     unfold stepM
     rw [if_neg H2.out, if_neg H22.out, if_neg (by rw [Int.toNat_natCast, hh]; decide)]
    clear hh
    go_wp2
    go_roundw
    case rel => exact ⟨(p : Int) - 1, nx, sh, now, done, ps, A1, n1, c1, rfl, by go_num, htr2, hpw, hs2, haw2, hn1, by omega, by omega, hgo, hB2⟩
    case measure => simp [intOf, lenV] <;> omega
   | true =>
    have hst : stepM l ws ⟨p, nx, sh, now⟩ = (some ((p : Int), replaceM l now p), ⟨(p : Int) - max (l.ifs.length : Int) 1, nx, sh, replaceM l now p⟩) := by
     unfold stepM
     rw [if_neg H2.out, if_neg H22.out, if_pos (by rw [Int.toNat_natCast, hh])]
     rfl
    have HST1 := hI hst; clear hst
    have hlen := replaceM_len hh
    have hfin : p + l.ifs.length ≤ n1 := by have := hit_fits hh; have := hnl.out; omega
    have HH := hI hh; clear hh
    go_wp2_with (refine load_law rfl (.tmp 2) rfl w.heap.size l a rfl H1b.out ?_)
    refine (r8replace_c l a A1 n1 c1 now p w2 HL2.out haw2.out.1.1 HFIT.out (by omega) hfin (by omega) HU.out hgo.out.1 hgo.out.2).mono ?_
    rintro e w3 ⟨A3, n3, c3, rfl, hw3, hb3, hf3⟩
    have hB3 := hB2.trans (hb3.mono hB2.size)
    have H1c : Hid (w3.heap[w.heap.size]? = some (.cells (lawCs l a) 34 (0, 0))) := (hb3.block _ (lt_of_block H1b.out)).trans H1b.out
    have htr3 : Hid (TrOK w3 Wb.heap.size u7 u8 done.length ps) := htr2.out.below hb3
    have haw3 : Hid (Away u7 w3 (A3, n3, c3, replaceM l now p) ∧ Away u8 w3 (A3, n3, c3, replaceM l now p)) := htr2.out.fresh hw3 hf3
    have hgo3 : Hid (WordU (replaceM l now p) ∧ OkW (replaceM l now p)) := ⟨replaceM_u hgo.out.1, replaceM_ok HV.out hgo.out.2⟩
    have hn3 : n3 + l.ifs.length = n1 + l.outs.length := by have h1 := hw3.len; have h2 := hnl.out; omega
    have hw3l : Hid ((replaceM l now p).length = n3) := hw3.len
    clear hb3 hf3 hw3 htr2 haw2 HL2 H1b hlen
    by_cases h32 : 32 < n3
    ·have hres : trM l ws = (11, []) := by unfold trM; rw [if_pos (hso.out.long HMM.out HFM.out HST1.out (by rw [hw3l.out]; exact h32))]
     have HRES := hI hres; clear hres
     go_wp2
     go_ret3
     refine ⟨.slice none 0 0, none, 0, 0, ?_, ?_, hBb.trans (hB3.mono hBb.size)⟩
     ·rw [HRES.out]; rfl
     ·rw [HRES.out]; exact IsWords.nil _
    ·have hs3 : Hid (SoFar l ws ⟨(p : Int) - max (l.ifs.length : Int) 1, nx, sh, replaceM l now p⟩ (done ++ [((p : Int), replaceM l now p)])) := hso.out.step HMM.out HFM.out HST1.out (by rw [hw3l.out]; omega)
     have hdl : done.length ≤ 80 := done_len hso.out
     have hps : ps.length = done.length := by have := congrArg List.length hpw.out; simpa using this
     have HPS := hI hps
     have hpl : ps.length ≤ 80 := by omega
     clear hps
     obtain ⟨xs, hop⟩ := htr3.out.op
     have HOP := hI hop; clear hop
     go_wp2_with (at_builtin; refine append_int rfl (.tmp 34) (.tmp 36) rfl Wb.heap.size u7 done.length xs rfl (HOP.out.alloc _) ⟨w3.heap.size, 0, none⟩ 1 (.int .i64 p) rfl (cell_one_new _ _ _) rfl (by omega) ?hz1 ?hc1)
     case hz1 => have := hB3.size; simp; omega
     case hc1 =>
      intro v4 w4 hown4 hg4 hat4
      have HAT4 : v4.ownBlock = u7.ownBlock ∨ v4.ownBlock = some (w3.alloc (.cells #[.int .i64 p] 3)).heap.size := hat4.imp id (fun e => e.trans (by simp))
      have hba : Below w3.heap.size w3 (w3.alloc (.cells #[.int .i64 p] 3)) := (Below.refl _ _).alloc rr _
      have htr4 : Hid (TrOK w4 Wb.heap.size v4 u8 (done.length + 1) ps) := (htr3.out.below hba).pushP hown4 hg4 HAT4
      have haw4 : Hid (Away v4 w4 (A3, n3, c3, replaceM l now p) ∧ Away u8 w4 (A3, n3, c3, replaceM l now p)) := ⟨(haw3.out.1.below hba).grown hg4 HAT4, (haw3.out.1.below hba).word_grown hg4, haw3.out.2.2⟩
      have hlt4 := (htr3.out.below hba).lts.1
      have hB4 : Below Wb.heap.size Wb w4 := (hB3.trans (hba.mono hB3.size)).grown hg4 (by have := hB3.size; simp; omega) (fun k hk => (hlt4 k hk).1)
      have H1d : Hid (w4.heap[w.heap.size]? = some (.cells (lawCs l a) 34 (0, 0))) := (hB4.block _ HLB.out).trans HRB.out
      clear hown4 hg4 hat4 hlt4 hba htr3 haw3 HOP H1c
      go_wp2_with (at_builtin; refine append_wd rfl (.tmp 38) (.tmp 40) rfl Wb.heap.size u8 ps.length _ rfl (htr4.out.ow.alloc _) ⟨w4.heap.size, 0, none⟩ 1 (.slice A3 n3 c3) rfl (cell_one_new _ _ _) rfl (by omega) ?hz2 ?hc2)
      case hz2 => have := hB4.size; simp; omega
      case hc2 =>
       intro v5 w5 hown5 hg5 hat5
       have HAT5 : v5.ownBlock = u8.ownBlock ∨ v5.ownBlock = some (w4.alloc (.cells #[.slice A3 n3 c3] 32)).heap.size := hat5.imp id (fun e => e.trans (by simp))
       have hba : Below w4.heap.size w4 (w4.alloc (.cells #[.slice A3 n3 c3] 32)) := (Below.refl _ _).alloc rr _
       have h5 := (htr4.out.below hba).pushW (q := (A3, n3, c3, replaceM l now p)) ⟨haw4.out.1.below hba, haw4.out.2.below hba⟩ hown5 hg5 HAT5
       have H5 := hI h5; clear h5
       have hlt5 := (htr4.out.below hba).lts.2
       have hB5 : Below Wb.heap.size Wb w5 := (hB4.trans (hba.mono hB4.size)).grown hg5 (by have := hB4.size; simp; omega) (fun k hk => (hlt5 k hk).1)
       have H1e : Hid (w5.heap[w.heap.size]? = some (.cells (lawCs l a) 34 (0, 0))) := (hB5.block _ HLB.out).trans HRB.out
       have hpw5 : Hid ((ps ++ [((A3, n3, c3, replaceM l now p) : Part)]).map Part.word = (done ++ [((p : Int), replaceM l now p)]).map (·.2)) := by show _ = _; rw [List.map_append, List.map_append, hpw.out]; rfl
       have htr5 : Hid (TrOK w5 Wb.heap.size v4 v5 (done ++ [((p : Int), replaceM l now p)]).length (ps ++ [((A3, n3, c3, replaceM l now p) : Part)])) := by show TrOK _ _ _ _ _ _; rw [List.length_append]; exact H5.out.1
       clear hown5 hg5 hat5 hlt5 hba htr4 haw4 H1d
       obtain ⟨d0, d1, d2, d3⟩ := law_reads H1e.out
       by_cases hk0 : l.ifs.length = 0
       ·have hs6 : Hid (SoFar l ws ⟨(p : Int) - l.ifs.length - 1, nx, sh, replaceM l now p⟩ (done ++ [((p : Int), replaceM l now p)])) := by
         have := hs3.out
         show SoFar _ _ _ _
         rw [show (p : Int) - l.ifs.length - 1 = (p : Int) - max (l.ifs.length : Int) 1 by omega]
         exact this
        have hk0' : ((l.ifs.length : Int) == 0) = true := by rw [hk0]; rfl
        have hk0'' : l.ifs.length ≤ 0 := by omega
        clear hk0
        go_wp2
        go_roundw
        case rel => exact ⟨(p : Int) - l.ifs.length - 1, nx, sh, replaceM l now p, _, _, A3, n3, c3, rfl, by go_num, htr5, hpw5, hs6, ⟨H5.out.2.1, H5.out.2.2⟩, by omega, by omega, by omega, hgo3, hB5⟩
        case measure => simp [intOf, lenV]; omega
       ·have hs6 : Hid (SoFar l ws ⟨(p : Int) - l.ifs.length, nx, sh, replaceM l now p⟩ (done ++ [((p : Int), replaceM l now p)])) := by
         have := hs3.out
         show SoFar _ _ _ _
         rw [show (p : Int) - l.ifs.length = (p : Int) - max (l.ifs.length : Int) 1 by omega]
         exact this
        have hk0' : ((l.ifs.length : Int) == 0) = false := by simpa using hk0
        have hk0'' : 1 ≤ l.ifs.length := by omega
        clear hk0
        go_wp2
        go_roundw
        case rel => exact ⟨(p : Int) - l.ifs.length, nx, sh, replaceM l now p, _, _, A3, n3, c3, rfl, by go_num, htr5, hpw5, hs6, ⟨H5.out.2.1, H5.out.2.2⟩, by omega, by omega, by omega, hgo3, hB5⟩
        case measure => simp [intOf, lenV]; omega
  ·have hfm : finM l ws ⟨q, nx, sh, now⟩ = true := by unfold finM; rw [if_neg H2.out, if_neg H22.out, if_pos H3.out]; simp; omega
   have hres : trM l ws = (0, done.map (·.2)) := by unfold trM; rw [hso.out.fin hfm]; rfl
   have HRES := hI hres; clear hres hfm
   have hfin' : ¬ (0 ≤ q) := hfin
   obtain ⟨A8, c8, rfl⟩ := own_form htr.out.ow
   go_wp2
   go_ret3
   refine ⟨u7, A8, ps.length, c8, ?_, ?_, hBb.trans (hB.mono hBb.size)⟩
   ·rw [HRES.out]; rfl
   ·rw [HRES.out]; show IsWords _ _ _ _ (done.map (·.2)); rw [← hpw.out]; exact htr.out.words rfl
section at_
variable {P : Program} (w : World)
theorem run_append_cells_at (base : Nat) (t ty e : TypeId) (i : TypeInfo) (z : Value) (sz bytes : Nat) (ht : P.underlying t = some (.slice e)) (hi : P.info? e = some i) (hz : i.zero = some z)
  (hsize : i.size = sz) (hby : i.bytes = bytes) (hzs : z.cells.size = sz) (hsz : 0 < sz)
  (v : Value) (n : Nat) (xs : List Value) (hown : w.ownsRow base e sz v n xs)
  (A : Option Addr) (m c : Nat) (news : List Value) (hr : Cells w A m c sz news) (h1 : ∀ u ∈ news, u.oneCell' = true)
  (h63 : n + m ≤ maxLen) (hbytes : (n + m) * bytes ≤ 140737488355328) (hbase : base ≤ w.heap.size) :
  ∃ v' w', (Builtin.append_ #[t, t] ty #[v, .slice A m c]).run P w = .ok v' w' ∧ w'.ownsRow base e sz v' (n + m) (xs ++ news) ∧ w.grownBy w' v.ownBlock ∧
   (v'.ownBlock = v.ownBlock ∨ v'.ownBlock = some w.heap.size) := by
 obtain ⟨h1', h2, h3, h4, h5⟩ := hr
 rcases Nat.eq_zero_or_pos m with hm | hm
 ·subst hm
  have hn : news = [] := List.eq_nil_of_length_eq_zero (by simpa using h1')
  subst hn
  cases A with
  | none => exact ⟨v, w, run_append_of_nil w base t ty e i sz ht hi v n xs hown c, by simpa using hown, ⟨rfl, rfl, rfl, rr, fun _ _ _ => rfl⟩, .inl rfl⟩
  | some ad =>
   obtain ⟨v', w', q1, q2, q3, _, q4⟩ := run_append_own_at w base t ty e i z sz bytes ht hi hz hsize hby hzs hsz v n xs hown ad 0 c [] (by simp) (by simp) (by simp) h63 hbytes hbase
   exact ⟨v', w', q1, q2, q3, q4⟩
 ·obtain ⟨b, off, rfl, _, hc⟩ := h5 hm
  obtain ⟨v', w', q1, q2, q3, _, q4⟩ := run_append_own_at w base t ty e i z sz bytes ht hi hz hsize hby hzs hsz v n xs hown ⟨b, off, none⟩ m c news h1' (fun j u hu => by rw [addr_add]; exact hc j u hu) h1 h63 hbytes hbase
  exact ⟨v', w', q1, q2, q3, q4⟩
end at_
theorem upon_append_at {o : Oper} {a : Act} {K : Act → World → Prop} {Q : Exit → Act → World → Prop} (w : World) (s x : Operand)
  (ho : o.op = .call { callee := .builtin .append, args := #[s, x], argTypes := #[32, 32] })
  (base : Nat) (v : Value) (n : Nat) (xs : List Snd) (hs : a.eval s = v) (hown : w.ownsRow base 24 2 v n (wcells xs))
  (A : Option Addr) (m c : Nat) (ys : List Snd) (hx : a.eval x = .slice A m c) (hr : IsWord w A m c ys) (hl : n + m ≤ 4096) (hbase : base ≤ w.heap.size)
  (h : ∀ v' w', w'.ownsRow base 24 2 v' (n + m) (wcells (xs ++ ys)) → w.grownBy w' v.ownBlock → (v'.ownBlock = v.ownBlock ∨ v'.ownBlock = some w.heap.size) →
   K (a.put o.dst v') w') : o.wp Tryz.prog a w K Q := by
 obtain ⟨i0, hi, hz0, hz1, hz2⟩ := info_parts snd_info
 obtain ⟨v', w', hrun, h2, h3, h4⟩ := run_append_cells_at (P := Tryz.prog) w base 32 o.type 24 i0 _ 2 8 Tryz.underlying32 hi hz0 hz1 hz2 rfl (by decide) v n (wcells xs) hown A m c (wcells ys) hr
  (wcells_one ys) (by unfold maxLen; omega) (by omega) hbase
 unfold Oper.wp execOp
 simp only [ho, resolve, invoke, builtin, Sem.run_bind, Sem.run_pure, Result.andThen_ok, List.map_toArray, List.map_cons, List.map_nil, hs, hx, hrun]
 rw [← wcells_append] at h2
 exact h v' w' h2 h3 h4
theorem append_snd_at {ops : Array Oper} {rest : List Oper} {o : Oper} {a : Act} {w : World} {Q : Exit → Act → World → Prop} (hgd : o.guard = none) (s x : Operand)
  (ho : o.op = .call { callee := .builtin .append, args := #[s, x], argTypes := #[32, 32] })
  (base : Nat) (v : Value) (n : Nat) (xs : List Snd) (hs : a.eval s = v) (hown : w.ownsRow base 24 2 v n (wcells xs))
  (A : Option Addr) (m c : Nat) (ys : List Snd) (hx : a.eval x = .slice A m c) (hr : IsWord w A m c ys) (hl : n + m ≤ 4096) (hbase : base ≤ w.heap.size)
  (h : ∀ v' w', w'.ownsRow base 24 2 v' (n + m) (wcells (xs ++ ys)) → w.grownBy w' v.ownBlock → (v'.ownBlock = v.ownBlock ∨ v'.ownBlock = some w.heap.size) →
   wpList Tryz.prog ops Q rest (a.put o.dst v') w') : wpList Tryz.prog ops Q (o :: rest) a w :=
 wpList_plain hgd fun _ hK => upon_append_at w s x ho base v n xs hs hown A m c ys hx hr hl hbase fun v' w' h1 h2 h3 => hK _ _ (h v' w' h1 h2 h3)
structure AlOK (w : World) (B : Nat) (vp vw vo : Value) (np : Nat) (ps : List Part) (no : Nat) (out : List Snd) : Prop where
 tr : TrOK w B vp vw np ps
 oo : w.ownsRow B 24 2 vo no (wcells out)
 on : ∀ k, vo.ownBlock = some k → ¬ vp.ownBlock = some k ∧ ¬ vw.ownBlock = some k
 fr : ∀ p ∈ ps, Away vo w p
theorem AlOK.nil (w : World) : AlOK w w.heap.size (.slice none 0 0) (.slice none 0 0) (.slice none 0 0) 0 [] 0 [] :=
 ⟨TrOK.nil w, World.ownsRow_nil _ _ _ _, fun k h => (by cases h), fun p hp => by simp at hp⟩
section al
variable {w w' X : World} {B np no : Nat} {vp vw vo vp' vw' vo' : Value} {ps : List Part} {out out' : List Snd}
theorem AlOK.below (h : AlOK w B vp vw vo np ps no out) (hb : Below w.heap.size w w') : AlOK w' B vp vw vo np ps no out :=
 ⟨h.tr.below hb, own_heap h.oo fun k e => hb.block k (h.oo.lt k e).2, h.on, fun p hp => (h.fr p hp).below hb⟩
theorem AlOK.pushP {xs : List Value} (h : AlOK w B vp vw vo np ps no out) (hown : X.ownsRow B 3 1 vp' (np + 1) xs) (hg : w.grownBy X vp.ownBlock)
  (hat : vp'.ownBlock = vp.ownBlock ∨ vp'.ownBlock = some w.heap.size) : AlOK X B vp' vw vo (np + 1) ps no out := by
 refine ⟨h.tr.pushP hown hg hat, own_heap h.oo fun k e => hg.block k (h.oo.lt k e).2 (fun e' => (h.on k e).1 e'.symm), fun k e => ⟨fun e' => ?_, (h.on k e).2⟩, fun p hp => ⟨(h.tr.pp p hp).1.word_grown hg, (h.fr p hp).2⟩⟩
 rcases hat with q | q
 ·exact (h.on k e).1 (q ▸ e')
 ·rw [q] at e'; injection e' with e'; have := (h.oo.lt k e).2; omega
theorem AlOK.pushW {q : Part} (h : AlOK w B vp vw vo np ps no out) (hq : Away vp w q ∧ Away vw w q) (hqo : Away vo w q) (hown : X.ownsRow B 32 1 vw' (ps.length + 1) (ps.map Part.val ++ [q.val])) (hg : w.grownBy X vw.ownBlock)
  (hat : vw'.ownBlock = vw.ownBlock ∨ vw'.ownBlock = some w.heap.size) : AlOK X B vp vw' vo np (ps ++ [q]) no out := by
 refine ⟨(h.tr.pushW hq hown hg hat).1, own_heap h.oo fun k e => hg.block k (h.oo.lt k e).2 (fun e' => (h.on k e).2 e'.symm), fun k e => ⟨(h.on k e).1, fun e' => ?_⟩, fun p hp => ?_⟩
 ·rcases hat with u | u
  ·exact (h.on k e).2 (u ▸ e')
  ·rw [u] at e'; injection e' with e'; have := (h.oo.lt k e).2; omega
 ·rcases List.mem_append.1 hp with hp | hp
  ·exact ⟨(h.tr.pp p hp).2.word_grown hg, (h.fr p hp).2⟩
  ·obtain rfl : p = q := by simpa using hp
   exact ⟨hq.2.word_grown hg, hqo.2⟩
theorem AlOK.growO (h : AlOK w B vp vw vo np ps no out) {no' : Nat} (hown : X.ownsRow B 24 2 vo' no' (wcells out')) (hg : w.grownBy X vo.ownBlock)
  (hat : vo'.ownBlock = vo.ownBlock ∨ vo'.ownBlock = some w.heap.size) : AlOK X B vp vw vo' np ps no' out' := by
 have hb : ∀ k, k < w.heap.size → ¬ vo.ownBlock = some k → X.heap[k]? = w.heap[k]? := fun k h1 h2 => hg.block k h1 (fun e => h2 e.symm)
 obtain ⟨xs, ho⟩ := h.tr.op
 refine ⟨⟨⟨xs, own_heap ho fun k e => hb k (ho.lt k e).2 (fun e' => (h.on k e').1 e)⟩, own_heap h.tr.ow fun k e => hb k (h.tr.ow.lt k e).2 (fun e' => (h.on k e').2 e), h.tr.ne, fun p hp => ⟨⟨(h.fr p hp).word_grown hg, (h.tr.pp p hp).1.2⟩, (h.fr p hp).word_grown hg, (h.tr.pp p hp).2.2⟩, Nat.le_trans h.tr.sz hg.size⟩, hown, fun k e => ?_, fun p hp => (h.fr p hp).grown hg hat⟩
 rcases hat with u | u
 ·exact h.on k (u ▸ e)
 ·rw [u] at e; injection e with e
  exact ⟨fun e' => by have := (ho.lt k e').2; omega, fun e' => by have := (h.tr.ow.lt k e').2; omega⟩
theorem AlOK.fresh {q : Part} (h : AlOK w B vp vw vo np ps no out) (hq : IsWord w' q.1 q.2.1 q.2.2.1 q.2.2.2) (hf : ∀ ad, q.1 = some ad → w.heap.size ≤ ad.block) : (Away vp w' q ∧ Away vw w' q) ∧ Away vo w' q :=
 ⟨h.tr.fresh hq hf, hq, fun ad had _ e => by have := (h.oo.lt _ e).2; have := hf ad had; omega⟩
end al
def AllAt (l : LawD) (ws : List Snd) (p : Nat) (out : List Snd) (done : List (Int × List Snd)) : Prop :=
 (runM l ws 80 (startM l ws) = (done, false) ∧ ws.length < p + l.ifs.length) ∨
 ∃ nx sh, SoFar l ws ⟨p, nx, sh, out ++ ws.drop p⟩ done ∧ nx ≤ p ∧ (out.length : Int) = p + sh ∧ p + l.ifs.length ≤ ws.length
section allat
variable {l : LawD} {ws out : List Snd} {done : List (Int × List Snd)} {p : Nat}
theorem fin1 (hm : l.mode = 1) (p : Nat) (nx sh : Int) (now : List Snd) : finM l ws ⟨p, nx, sh, now⟩ = decide (ws.length < p + l.ifs.length) := by
 unfold finM; rw [if_pos hm]; simp only; exact decide_eq_decide.2 (by omega)
theorem AllAt.of (hm : l.mode = 1) {nx sh : Int} (h : SoFar l ws ⟨p, nx, sh, out ++ ws.drop p⟩ done) (hn : nx ≤ p) (ho : p + l.ifs.length ≤ ws.length → (out.length : Int) = p + sh) : AllAt l ws p out done := by
 by_cases hf : ws.length < p + l.ifs.length
 ·exact .inl ⟨h.fin (by rw [fin1 hm]; simpa using hf), hf⟩
 ·exact .inr ⟨nx, sh, h, hn, ho (by omega), by omega⟩
theorem AllAt.start (hm : l.mode = 1) (hw : ws.length ≤ 32) : AllAt l ws 0 [] [] := by
 have h := SoFar.start l ws hw
 have e : startM l ws = ⟨0, 0, 0, ws⟩ := by unfold startM; rw [if_neg (by rw [hm]; decide)]
 refine AllAt.of hm (nx := 0) (sh := 0) ?_ (by omega) (fun _ => rfl)
 rw [e] at h
 exact h
theorem SoFar.jump (hm : l.mode = 1) {nx sh : Int} {now : List Snd} : ∀ (d p : Nat), SoFar l ws ⟨p, nx, sh, now⟩ done → (p : Int) + d ≤ nx → (runM l ws 80 (startM l ws) = (done, false) ∧ ws.length < p + d + l.ifs.length) ∨ SoFar l ws ⟨(p + d : Nat), nx, sh, now⟩ done
 | 0, p, h, _ => .inr h
 | d + 1, p, h, hn => by
  by_cases hf : ws.length < p + l.ifs.length
  ·exact .inl ⟨h.fin (by rw [fin1 hm]; simpa using hf), by omega⟩
  ·have hs : SoFar l ws ⟨(p + 1 : Nat), nx, sh, now⟩ done := by
    refine h.skip (.inl hm) (by rw [fin1 hm]; simpa using hf) ?_
    unfold stepM
    rw [if_pos hm, show decide (nx ≤ (p : Int)) = false by simp; omega, Bool.and_false, if_neg (by decide)]
    simp
   have := SoFar.jump hm d (p + 1) hs (by omega)
   rwa [show p + (d + 1) = p + 1 + d by omega]
theorem AllAt.skip (hm : l.mode = 1) (h : AllAt l ws p out done) (hh : hitM l ws p = false) : AllAt l ws (p + 1) (out ++ (ws.drop p).take 1) done := by
 rcases h with ⟨h1, h2⟩ | ⟨nx, sh, h1, h2, h3, h4⟩
 ·exact .inl ⟨h1, by omega⟩
 ·have hs : SoFar l ws ⟨(p + 1 : Nat), nx, sh, out ++ ws.drop p⟩ done := by
   refine h1.skip (.inl hm) (by rw [fin1 hm]; simpa using h4) ?_
   unfold stepM
   rw [if_pos hm, show hitM l ws ((⟨p, nx, sh, out ++ ws.drop p⟩ : RS).at_.toNat) = false by rw [show (⟨p, nx, sh, out ++ ws.drop p⟩ : RS).at_ = p from rfl, Int.toNat_natCast, hh], Bool.false_and, if_neg (by decide)]
   simp
  refine AllAt.of hm (nx := nx) (sh := sh) ?_ (by omega) (fun h5 => ?_)
  ·rw [List.append_assoc, show (ws.drop p).take 1 ++ ws.drop (p + 1) = ws.drop p by rw [← List.drop_drop]; exact List.take_append_drop 1 _]
   exact hs
  ·rw [List.length_append, List.length_take, List.length_drop]
   omega
def nextW (l : LawD) (ws out : List Snd) (p : Nat) : List Snd := out ++ putM l ((ws.drop p).take l.ifs.length) ++ ws.drop (p + l.ifs.length)
theorem AllAt.hit_step (hm : l.mode = 1) (h : AllAt l ws p out done) (hh : hitM l ws p = true) : ∃ nx sh, SoFar l ws ⟨p, nx, sh, out ++ ws.drop p⟩ done ∧ (out.length : Int) = p + sh ∧ finM l ws ⟨p, nx, sh, out ++ ws.drop p⟩ = false ∧
  stepM l ws ⟨p, nx, sh, out ++ ws.drop p⟩ = (some ((p : Int), nextW l ws out p), ⟨(p : Int) + 1, (p : Int) + max (l.ifs.length : Int) 1, sh + l.outs.length - l.ifs.length, nextW l ws out p⟩) := by
 have hf := hit_fits hh
 rcases h with ⟨h1, h2⟩ | ⟨nx, sh, h1, h2, h3, h4⟩
 ·omega
 ·refine ⟨nx, sh, h1, h3, by rw [fin1 hm]; simpa using h4, ?_⟩
  unfold stepM
  have e : (out ++ ws.drop p).take ((p : Int) + sh).toNat = out := by
   rw [← h3, Int.toNat_natCast]; exact List.take_left
  simp only [if_pos hm, Int.toNat_natCast, hh, Bool.true_and, decide_eq_true h2, if_true, e]
  rfl
theorem AllAt.long (hm : l.mode = 1) (h : AllAt l ws p out done) (hh : hitM l ws p = true) (hn : 32 < (nextW l ws out p).length) : (runM l ws 80 (startM l ws)).2 = true := by
 obtain ⟨nx, sh, h1, _, h2, h3⟩ := h.hit_step hm hh
 exact h1.long (.inl hm) h2 h3 hn
theorem AllAt.hit (hm : l.mode = 1) (h : AllAt l ws p out done) (hh : hitM l ws p = true) (hn : (nextW l ws out p).length ≤ 32) :
  AllAt l ws (p + max l.ifs.length 1) (out ++ putM l ((ws.drop p).take l.ifs.length) ++ if l.ifs.length = 0 then (ws.drop p).take 1 else []) (done ++ [((p : Int), nextW l ws out p)]) := by
 obtain ⟨nx, sh, h1, h5, h2, h3⟩ := h.hit_step hm hh
 have hs := h1.step (.inl hm) h2 h3 hn
 have hf := hit_fits hh
 have hpl := putM_len l ((ws.drop p).take l.ifs.length)
 have hj := SoFar.jump hm (max l.ifs.length 1 - 1) (p + 1) (nx := (p : Int) + max (l.ifs.length : Int) 1) (sh := sh + l.outs.length - l.ifs.length) (now := nextW l ws out p) (by simpa using hs) (by omega)
 rw [show p + 1 + (max l.ifs.length 1 - 1) = p + max l.ifs.length 1 by omega] at hj
 rcases hj with ⟨j1, j2⟩ | hj
 ·exact .inl ⟨j1, by omega⟩
 ·refine AllAt.of hm (nx := (p : Int) + max (l.ifs.length : Int) 1) (sh := sh + l.outs.length - l.ifs.length) ?_ (by omega) (fun h6 => ?_)
  ·by_cases hk : l.ifs.length = 0
   ·rw [if_pos hk, List.append_assoc, show max l.ifs.length 1 = 1 by omega, show (ws.drop p).take 1 ++ ws.drop (p + 1) = ws.drop p by rw [← List.drop_drop]; exact List.take_append_drop 1 _]
    rw [show max l.ifs.length 1 = 1 by omega] at hj
    unfold nextW at hj ⊢
    rw [show ws.drop (p + l.ifs.length) = ws.drop p by rw [hk]; rfl] at hj ⊢
    exact hj
   ·rw [if_neg hk, List.append_nil, show max l.ifs.length 1 = l.ifs.length by omega]
    rw [show max l.ifs.length 1 = l.ifs.length by omega] at hj
    exact hj
  ·by_cases hk : l.ifs.length = 0
   ·rw [if_pos hk, List.length_append, List.length_append, List.length_take, List.length_drop, hpl]
    omega
   ·rw [if_neg hk, List.append_nil, List.length_append, hpl]
    omega
theorem AllAt.fin (h : AllAt l ws p out done) (hp : ws.length < p) : runM l ws 80 (startM l ws) = (done, false) := by
 rcases h with ⟨h1, _⟩ | ⟨_, _, _, _, _, h4⟩
 ·exact h1
 ·omega
theorem AllAt.done_len (h : AllAt l ws p out done) : done.length ≤ 80 := by
 rcases h with ⟨h1, _⟩ | ⟨_, _, h1, _⟩
 ·have := runM_len l ws 80 (startM l ws)
  rw [h1] at this
  exact this
 ·exact Proofs.YtcpcojgmmpnkoaaGreatDoor.done_len h1
end allat
end Go.Proofs.YtcpcojgmmpnkoaaGreatDoor
namespace Go.Proofs.YtcpcojgmmpnkoaaGreatDoor
open Go.RowKit Go.Shelf
attribute [local go_sem] Oper.semAt_some
theorem drop_one {α : Type} {l : List α} {p : Nat} {x : α} (h : l[p]? = some x) : (l.drop p).take 1 = [x] := by
 obtain ⟨hp, rfl⟩ := List.getElem?_eq_some_iff.1 h
 rw [List.drop_eq_getElem_cons hp]; rfl
theorem r8all_c (l : LawD) (a : LawA) (A : Option Addr) (n c : Nat) (ws : List Snd) (w : World) (hl : LawAt w l a) (hw : IsWord w A n c ws) (hu : LawU l) (hwu : WordU ws) (hv : lawE l = 0) (hck : wcheck ws = 0) (hmode : l.mode = 1) :
  Calls Tryz.prog 197 #[lawV l a, .slice A n c] w (RetTr w (trM l ws)) := by
 obtain ⟨hk4, hm6, hmm, hfit⟩ := law_ok hv
 obtain ⟨hn32, hwo⟩ := wcheck_iff.1 hck
 have hwl : ws.length = n := hw.len
 rw [hwl] at hn32
 have hnc : n ≤ c := hw.2.1
 have hc63 : c ≤ 9223372036854775807 := by have := hw.2.2.1; unfold maxLen at this; omega
 have H1M : Hid (l.mode = 1) := hmode
 have HS0 : Hid (AllAt l ws 0 [] []) := AllAt.start hmode (by omega)
 have HWL : Hid (ws.length = n) := hwl
 have HFIT := hI hfit; clear hfit
 have HL := hI hl; clear hl
 have HU := hI hu; clear hu
 have HV := hI hv; clear hv hmm hck hmode hwl
 obtain ⟨Wb, hWb, hrb, hlb, hBb, hzb⟩ := law_box w l a
 obtain ⟨d0, d1, d2, d3⟩ := law_reads hrb
 have HRB := hI hrb; clear hrb
 have HLB := hI hlb; clear hlb
 have HLb : Hid (LawAt Wb l a) := HL.out.below hBb rr
 have HW : Hid (IsWord Wb A n c ws) := hw.below hBb rr
 clear hw HL
 have HGO : Hid (WordU ws ∧ OkW ws) := ⟨hwu, hwo⟩
 clear hwu hwo
 go_enter Tryz.func197, Tryz.ntmps197
 go_wp2_with fail
 clear hWb d0 d1 d2 d3
 go_loopw [7, 8, 9, 10] (fun vp vw vo i wr => ∃ (p : Nat) (done : List (Int × List Snd)) (ps : List Part) (no : Nat) (out : List Snd), i = .int .i64 p ∧ Hid (AlOK wr Wb.heap.size vp vw vo done.length ps no out) ∧ Hid (ps.map Part.word = done.map (·.2)) ∧
  Hid (AllAt l ws p out done) ∧ no ≤ 7 * p ∧ p ≤ 40 ∧ Below Wb.heap.size Wb wr) (fun _ _ _ i _ => 41 - (intOf i).toNat)
 case atStart => exact ⟨0, [], [], 0, [], rfl, AlOK.nil _, rfl, HS0, by omega, by omega, Below.refl _ _⟩
 case round =>
  obtain ⟨p, done, ps, no, out, rfl, htr, hpw, hat, hno, hp, hB⟩ := hrel
  have hBs := hB.size
  have hr1 := (hB.block _ HLB.out).trans HRB.out
  have hL1 := (HLb.out.below hB rr)
  have HL1 := hI hL1; clear hL1
  have H1 := hI hr1; clear hr1
  by_cases hfin : p ≤ n
  ·have hfin' : (p : Int) ≤ (n : Int) := by omega
   go_wp2_with (refine load_law rfl (.tmp 2) rfl w.heap.size l a rfl H1.out ?_)
   refine (r8Hit_c l a A n c ws p wr HL1.out (HW.out.below hB rr) HU.out HGO.out.1 (by omega) (by omega) (by omega)).mono ?_
   rintro e w2 ⟨rfl, hb2⟩
   have hB2 := hB.trans (hb2.mono hBs)
   have H1b : Hid (w2.heap[w.heap.size]? = some (.cells (lawCs l a) 34 (0, 0))) := (hb2.block _ (lt_of_block H1.out)).trans H1.out
   have HL2 : Hid (LawAt w2 l a) := HL1.out.below hb2 rr
   have htr2 : Hid (AlOK w2 Wb.heap.size u7 u8 u9 done.length ps no out) := htr.out.below hb2
   clear hb2 HL1 H1 htr
   cases hh : hitM l ws p with
   | false =>
    have hs2 : Hid (AllAt l ws (p + 1) (out ++ (ws.drop p).take 1) done) := hat.out.skip H1M.out hh
    clear hh
    by_cases hlt : p < n
    ·obtain ⟨bw, ow, x, y, rfl, hbwl, hwx, hw0, hw1⟩ := (HW.out.below hB2 rr).at_ hlt
     have hlt' : (p : Int) < (n : Int) := by omega
     have hs3 : Hid (AllAt l ws (p + 1) (out ++ [(x, y)]) done) := by show AllAt _ _ _ _ _; rw [← drop_one hwx]; exact hs2.out
     clear hwx hs2
     have hbs2 := hB2.size
     go_wp2_with (at_builtin; refine append_snd_at rfl (.tmp 26) (.tmp 31) rfl Wb.heap.size u9 no out rfl (htr2.out.oo.alloc _) (some ⟨w2.heap.size, 0, none⟩) 1 1 [(x, y)] rfl (word_one w2 x y 24) (by omega) ?hz1 ?hc1)
     case hz1 => simp; omega
     case hc1 =>
      intro v3 w3 hown3 hg3 hat3
      have HAT3 : v3.ownBlock = u9.ownBlock ∨ v3.ownBlock = some (w2.alloc (.cells #[.int .u32 x, .int .u32 y] 24)).heap.size := hat3.imp id (fun e => e.trans (by simp))
      have hba : Below w2.heap.size w2 (w2.alloc (.cells #[.int .u32 x, .int .u32 y] 24)) := (Below.refl _ _).alloc rr _
      have htr3 : Hid (AlOK w3 Wb.heap.size u7 u8 v3 done.length ps (no + 1) (out ++ [(x, y)])) := (htr2.out.below hba).growO hown3 hg3 HAT3
      have hB3 : Below Wb.heap.size Wb w3 := (hB2.trans (hba.mono hbs2)).grown hg3 (by simp; omega) (fun k hk => (htr2.out.oo.lt k hk).1)
      clear hown3 hg3 hat3 HAT3 hba htr2 hw0 hw1
      go_wp2
      go_roundw
      case rel => exact ⟨p + 1, done, ps, no + 1, _, by go_num, htr3, hpw, hs3, by omega, by omega, hB3⟩
      case measure => simp [intOf]; omega
    ·have hlt' : ¬ ((p : Int) < (n : Int)) := by omega
     have hs3 : Hid (AllAt l ws (p + 1) out done) := by
      have := hs2.out
      rwa [List.drop_eq_nil_of_le (by rw [HWL.out]; omega), List.take_nil, List.append_nil] at this
     clear hs2
     go_wp2
     go_roundw
     case rel => exact ⟨p + 1, done, ps, no, out, by go_num, htr2, hpw, hs3, by omega, by omega, hB2⟩
     case measure => simp [intOf]; omega
   | true =>
    have hat0 : p + l.ifs.length ≤ n := by have := hit_fits hh; have := HWL.out; omega
    have HH := hI hh; clear hh
    have hlb2 := lt_of_block H1b.out
    have hbs2 := hB2.size
    obtain ⟨d0, d1, d2, d3⟩ := law_reads H1b.out
    go_wp2
    clear d0 d1 d2 d3
    have hi1 : (0 : Int) ≤ (p : Int) := by omega
    have hi2 : (p : Int) ≤ (c : Int) := by omega
    have hi3 : (p : Int) ≤ (p : Int) + (l.ifs.length : Int) := by omega
    have hi4 : (p : Int) + (l.ifs.length : Int) ≤ (c : Int) := by omega
    have hi5 : (p : Int) + (l.ifs.length : Int) ≤ (n : Int) := by omega
    have hi6 : ((p : Int) + (l.ifs.length : Int)).toNat = p + l.ifs.length := by omega
    have hi7 : (0 : Int) ≤ (p : Int) + (l.ifs.length : Int) := by omega
    have hwr : IntKind.i64.wrap ((p : Int) + (l.ifs.length : Int)) = (p : Int) + (l.ifs.length : Int) := IntWalk.i64_in _ (by omega)
    refine plain_region (fun W' => W'.heap[w.heap.size]? = some (.cells (lawCs l a) 34 (0, 0))) (by kernel_rfl) H1b.out (fun hHeld => ?_)
    (refine' anyT_tk 0 rfl ?_; (try simp only [Act.put, nY, nX]))
    (refine' anyT_take (i := 1) (v := lawV l a) rfl (by kernel_rfl) (by kernel_rfl) (by kernel_rfl) (by kernel_rfl) (fun _ _ _ h => h) (yields_law (by rfl) (.tmp 2) rfl (w.heap.size) l a (by rfl) (fun w' hSw => by (try dsimp only at hSw); first | exact hSw | exact hSw.1)) (by assumption) ?_; (try simp only [Act.put, nY, nX]))
    (refine' anyT_tk 2 rfl ?_; (try simp only [Act.put, nY, nX])); (refine' anyT_tk 3 rfl ?_; (try simp only [Act.put, nY, nX])); (refine' anyT_tk 4 rfl ?_; (try simp only [Act.put, nY, nX])); (refine' anyT_tk 5 rfl ?_; (try simp only [Act.put, nY, nX])); (refine' anyT_tk 6 rfl ?_; (try simp only [Act.put, nY, nX])); (refine' anyT_tk 7 rfl ?_; (try simp only [Act.put, nY, nX]))
    (refine anyT_sp 8 rfl (fun K' hK' => ?_); simp only [nY]; go_simp)
    have hd2 : Below w2.heap.size w2 w2.drew := (Below.refl w2.heap.size w2).drew
    have hcut : IsWord w2.drew (if c = p then A else A.map (·.add (p * 2))) l.ifs.length (c - p) ((ws.drop p).take l.ifs.length) := IsWord.take ((HW.out.below (B := Wb.heap.size) (hB2.trans (hd2.mono hbs2)) rr).drop (by omega)) (by omega)
    refine (r8put_c l a _ _ _ _ (HL2.out.below (B := w2.heap.size) hd2 rr) hcut HFIT.out (by omega) HU.out ((HGO.out.1.drop _).take _) ((HGO.out.2.drop _).take _)).mono ?_
    rintro e w3 ⟨A3, n3, c3, rfl, hw3, hb3', _⟩
    have hb3 : Below w2.heap.size w2 w3 := hd2.trans hb3'
    have hB3 : Below Wb.heap.size Wb w3 := hB2.trans (hb3.mono hbs2)
    have hr3 := (hb3'.block w.heap.size hlb2).trans hHeld
    have htr3 : Hid (AlOK w3 Wb.heap.size u7 u8 u9 done.length ps no out) := htr2.out.below hb3
    have HW3 := hI hw3; clear hw3
    have hn3 : n3 = l.outs.length := by rw [← HW3.out.len]; simp [putM]
    have HN3 := hI hn3
    have hn3' : n3 ≤ 6 := by omega
    clear hn3 hcut hb3 hb3' hd2 htr2 HL2
    refine hK' _ _ ⟨.inr hr3, fun _ => ?_⟩
    clear hK' K' hHeld
    (try simp only [Act.put, nY, nX])
    refine anyT_sp 9 rfl (fun K' hK' => ?_)
    rw [if_pos (by rfl)]
    refine upon_append_at w3 (.tmp 38) (.tmp 46) rfl Wb.heap.size u9 no out (by rfl) htr3.out.oo A3 n3 c3 _ (by rfl) HW3.out (by omega) (by have := hB3.size; omega) ?_
    intro v4 w4 hown4 hg4 hat4
    have htr4 : Hid (AlOK w4 Wb.heap.size u7 u8 v4 done.length ps (no + n3) (out ++ putM l ((ws.drop p).take l.ifs.length))) := htr3.out.growO hown4 hg4 hat4
    have hB4 : Below Wb.heap.size Wb w4 := hB3.grown hg4 hB3.size (fun k hk => (htr3.out.oo.lt k hk).1)
    have hr4 := (hB4.block _ HLB.out).trans HRB.out
    refine hK' _ _ ⟨.inr hr4, fun _ => ?_⟩
    clear hK' K' hg4 hown4 hat4 htr3 hr3 HW3
    (try simp only [Act.put, nY, nX])
    (refine anyT_sp 10 rfl (fun K' hK' => ?_); simp only [nY]; go_simp)
    refine hK' _ _ ⟨.inl (by kernel_rfl), fun _ => anyT_done (by kernel_rfl) ?_ _⟩
    clear hK' K' hr4 H1b hlb2
    generalize (if c = p then A else A.map (·.add (p * 2))) = A5
    have hdl : done.length ≤ 80 := hat.out.done_len
    have hps : ps.length = done.length := by have := congrArg List.length hpw.out; simpa using this
    have hpl : ps.length ≤ 80 := by omega
    clear hps
    obtain ⟨xs, hop⟩ := htr4.out.tr.op
    have HOP := hI hop; clear hop
    go_wp2_with (at_builtin; refine append_int rfl (.tmp 48) (.tmp 50) rfl Wb.heap.size u7 done.length xs rfl (HOP.out.alloc _) ⟨w4.heap.size, 0, none⟩ 1 (.int .i64 p) rfl (cell_one_new _ _ _) rfl (by omega) ?hz1 ?hc1)
    case hz1 => have := hB4.size; simp; omega
    case hc1 =>
     intro v5 w5 hown5 hg5 hat5
     have HAT5 : v5.ownBlock = u7.ownBlock ∨ v5.ownBlock = some (w4.alloc (.cells #[.int .i64 p] 3)).heap.size := hat5.imp id (fun e => e.trans (by simp))
     have hba : Below w4.heap.size w4 (w4.alloc (.cells #[.int .i64 p] 3)) := (Below.refl _ _).alloc rr _
     have hlt5 := (htr4.out.below hba).tr.lts.1
     have htr5 : Hid (AlOK w5 Wb.heap.size v5 u8 v4 (done.length + 1) ps (no + n3) (out ++ putM l ((ws.drop p).take l.ifs.length))) := (htr4.out.below hba).pushP hown5 hg5 HAT5
     have hB5 : Below Wb.heap.size Wb w5 := (hB4.trans (hba.mono hB4.size)).grown hg5 (by have := hB4.size; simp; omega) (fun k hk => (hlt5 k hk).1)
     clear hown5 hg5 hat5 HAT5 hba hlt5 htr4 HOP
     obtain ⟨A4, c4, rfl⟩ := own_form htr5.out.oo
     obtain ⟨cutM, hcutM⟩ : ∃ cutM, cutM = putM l ((ws.drop p).take l.ifs.length) := ⟨_, rfl⟩
     rw [← hcutM] at htr5
     have HCM := hI hcutM; clear hcutM
     go_wp2
     refine plain_region (fun _ => True) (by kernel_rfl) trivial (fun _ => ?_)
     (refine' anyT_tk 1 rfl ?_; (try simp only [Act.put, nY, nX])); (refine' anyT_tk 3 rfl ?_; (try simp only [Act.put, nY, nX])); (refine' anyT_tk 4 rfl ?_; (try simp only [Act.put, nY, nX])); (refine' anyT_tk 5 rfl ?_; (try simp only [Act.put, nY, nX])); (refine' anyT_tk 6 rfl ?_; (try simp only [Act.put, nY, nX])); (refine' anyT_tk 7 rfl ?_; (try simp only [Act.put, nY, nX]))
     (refine anyT_sp 0 rfl (fun K' hK' => ?_); simp only [nY]; go_simp)
     refine hK' _ _ ⟨.inr trivial, fun _ => ?_⟩
     clear hK' K'
     (try simp only [Act.put, nY, nX])
     refine anyT_sp 2 rfl (fun K' hK' => ?_)
     rw [if_pos (by rfl)]
     have hbs5 := hB5.size
     have hbd : Below w5.heap.size w5 (w5.drew.alloc (.cells #[] 24)) := ((Below.refl w5.heap.size w5).drew).alloc rr _
     have how : IsWord (w5.drew.alloc (.cells #[] 24)) A4 (no + n3) c4 (out ++ cutM) := IsWord.below (Cells.of_own htr5.out.oo (by decide)) hbd rr
     refine upon_append_at _ (.tmp 52) (.tmp 53) rfl w5.heap.size (.slice (some ⟨w5.heap.size, 0, none⟩) 0 0) 0 [] (by rfl) (World.ownsRow_lit w5.drew #[] 0 rr (by unfold maxLen; omega) rfl) A4 (no + n3) c4 _ (by rfl) how (by omega) (by simp) ?_
     intro v6 w6 hown6 hg6 _
     have hb6 : Below w5.heap.size w5 w6 := hbd.grown hg6 (by simp) (fun k hk => by have h : w5.heap.size = k := (by simpa [Value.ownBlock] using hk); omega)
     refine hK' _ _ ⟨.inr trivial, fun _ => ?_⟩
     clear hK' K' how hbd hg6
     (try simp only [Act.put, nY, nX])
     refine anyT_sp 8 rfl (fun K' hK' => ?_)
     rw [if_pos (by rfl)]
     refine upon_append_at w6 (.tmp 54) (.tmp 59) rfl w5.heap.size v6 (0 + (no + n3)) _ (by rfl) hown6 (if c = p + l.ifs.length then A else A.map (·.add ((p + l.ifs.length) * 2))) (n - (p + l.ifs.length)) (c - (p + l.ifs.length)) (ws.drop (p + l.ifs.length)) (by rfl) (IsWord.drop (HW.out.below (hB5.trans (hb6.mono hbs5)) rr) hat0) (by omega) hb6.size ?_
     intro v7 w7 hown7 hg7 _
     have hb7 : Below w5.heap.size w5 w7 := hb6.grown hg7 hb6.size (fun k hk => (hown6.lt k hk).1)
     refine hK' _ _ ⟨.inr trivial, fun _ => ?_⟩
     clear hK' K' hg7 hown6 hb6
     (try simp only [Act.put, nY, nX])
     (refine anyT_sp 9 rfl (fun K' hK' => ?_); simp only [nY]; go_simp)
     refine hK' _ _ ⟨.inl (by kernel_rfl), fun _ => anyT_done (by kernel_rfl) ?_ _⟩
     clear hK' K'
     generalize (if c = p + l.ifs.length then A else A.map (·.add ((p + l.ifs.length) * 2))) = A9
     obtain ⟨n7, hn7⟩ : ∃ n7, n7 = 0 + (no + n3) + (n - (p + l.ifs.length)) := ⟨_, rfl⟩
     rw [← hn7] at hown7
     obtain ⟨A7, c7, rfl⟩ := own_form hown7
     have hnw : nextW l ws out p = (([] ++ (out ++ cutM)) ++ ws.drop (p + l.ifs.length)) := by unfold nextW; rw [← HCM.out]; rfl
     have hw7 : IsWord w7 A7 n7 c7 (nextW l ws out p) := by rw [hnw]; exact Cells.of_own hown7 (by decide)
     have hf7 : ∀ ad, A7 = some ad → w5.heap.size ≤ ad.block := fun ad had => (hown7.lt ad.block (by rw [had]; rfl)).1
     have hlen7 : Hid ((nextW l ws out p).length = n7) := hw7.len
     have haw7 := hI (htr5.out.fresh (q := (A7, n7, c7, nextW l ws out p)) hw7 hf7)
     have htr7 : Hid (AlOK w7 Wb.heap.size v5 u8 (.slice A4 (no + n3) c4) (done.length + 1) ps (no + n3) (out ++ cutM)) := htr5.out.below hb7
     have hB7 : Below Wb.heap.size Wb w7 := hB5.trans (hb7.mono hbs5)
     have HN7 := hI hn7
     clear hown7 hw7 hf7 hb7 htr5 hnw hn7
     by_cases h32 : 32 < n7
     ·have hres : trM l ws = (11, []) := by unfold trM; rw [if_pos (hat.out.long H1M.out HH.out (by rw [hlen7.out]; exact h32))]
      have HRES := hI hres; clear hres
      go_wp2
      go_ret3
      refine ⟨.slice none 0 0, none, 0, 0, ?_, ?_, hBb.trans (hB7.mono hBb.size)⟩
      ·rw [HRES.out]; rfl
      ·rw [HRES.out]; exact IsWords.nil _
     ·have hs3 : Hid (AllAt l ws (p + max l.ifs.length 1) (out ++ cutM ++ if l.ifs.length = 0 then (ws.drop p).take 1 else []) (done ++ [((p : Int), nextW l ws out p)])) := by
       show AllAt _ _ _ _ _
       rw [HCM.out]
       exact hat.out.hit H1M.out HH.out (by rw [hlen7.out]; omega)
      have hpw5 : Hid ((ps ++ [((A7, n7, c7, nextW l ws out p) : Part)]).map Part.word = (done ++ [((p : Int), nextW l ws out p)]).map (·.2)) := by show _ = _; rw [List.map_append, List.map_append, hpw.out]; rfl
      go_wp2_with (at_builtin; refine append_wd rfl (.tmp 64) (.tmp 66) rfl Wb.heap.size u8 ps.length _ rfl (htr7.out.tr.ow.alloc _) ⟨w7.heap.size, 0, none⟩ 1 (.slice A7 n7 c7) rfl (cell_one_new _ _ _) rfl (by omega) ?hz2 ?hc2)
      case hz2 => have := hB7.size; simp; omega
      case hc2 =>
       intro v8 w8 hown8 hg8 hat8
       have HAT8 : v8.ownBlock = u8.ownBlock ∨ v8.ownBlock = some (w7.alloc (.cells #[.slice A7 n7 c7] 32)).heap.size := hat8.imp id (fun e => e.trans (by simp))
       have hba : Below w7.heap.size w7 (w7.alloc (.cells #[.slice A7 n7 c7] 32)) := (Below.refl _ _).alloc rr _
       have h8 := (htr7.out.below hba).pushW (q := (A7, n7, c7, nextW l ws out p)) ⟨haw7.out.1.1.below hba, haw7.out.1.2.below hba⟩ (haw7.out.2.below hba) hown8 hg8 HAT8
       have hlt8 := (htr7.out.below hba).tr.lts.2
       have hB8 : Below Wb.heap.size Wb w8 := (hB7.trans (hba.mono hB7.size)).grown hg8 (by have := hB7.size; simp; omega) (fun k hk => (hlt8 k hk).1)
       have htr8 : Hid (AlOK w8 Wb.heap.size v5 v8 (.slice A4 (no + n3) c4) (done ++ [((p : Int), nextW l ws out p)]).length (ps ++ [((A7, n7, c7, nextW l ws out p) : Part)]) (no + n3) (out ++ cutM)) := by show AlOK _ _ _ _ _ _ _ _ _; rw [List.length_append]; exact h8
       clear h8 hown8 hg8 hat8 HAT8 hba hlt8 htr7 haw7
       have hbs8 := hB8.size
       by_cases hk0 : l.ifs.length = 0
       ·have hs4 : Hid (AllAt l ws (p + l.ifs.length + 1) (out ++ cutM ++ (ws.drop (p + l.ifs.length)).take 1) (done ++ [((p : Int), nextW l ws out p)])) := by
         have := hs3.out
         rw [if_pos hk0, show p + max l.ifs.length 1 = p + l.ifs.length + 1 by omega] at this
         show AllAt _ _ _ _ _
         rw [show ws.drop (p + l.ifs.length) = ws.drop p by rw [hk0]; rfl]
         exact this
        have hk0' : ((l.ifs.length : Int) == 0) = true := by rw [hk0]; rfl
        have hk1 : l.ifs.length ≤ 0 := by omega
        clear hk0 hs3
        by_cases hlt : p + l.ifs.length < n
        ·obtain ⟨bw, ow, x, y, rfl, hbwl, hwx, hw0, hw1⟩ := (HW.out.below hB8 rr).at_ hlt
         have hlt' : (p : Int) + (l.ifs.length : Int) < (n : Int) := by omega
         have hs5 : Hid (AllAt l ws (p + l.ifs.length + 1) (out ++ cutM ++ [(x, y)]) (done ++ [((p : Int), nextW l ws out p)])) := by show AllAt _ _ _ _ _; rw [← drop_one hwx]; exact hs4.out
         clear hwx hs4
         go_wp2_with (at_builtin; refine append_snd_at rfl (.tmp 77) (.tmp 82) rfl Wb.heap.size (.slice A4 (no + n3) c4) (no + n3) (out ++ cutM) rfl (htr8.out.oo.alloc _) (some ⟨w8.heap.size, 0, none⟩) 1 1 [(x, y)] rfl (word_one w8 x y 24) (by omega) ?hz3 ?hc3)
         case hz3 => simp; omega
         case hc3 =>
          intro v9 w9 hown9 hg9 hat9
          have HAT9 : v9.ownBlock = (Value.slice A4 (no + n3) c4).ownBlock ∨ v9.ownBlock = some (w8.alloc (.cells #[.int .u32 x, .int .u32 y] 24)).heap.size := hat9.imp id (fun e => e.trans (by simp))
          have hba : Below w8.heap.size w8 (w8.alloc (.cells #[.int .u32 x, .int .u32 y] 24)) := (Below.refl _ _).alloc rr _
          have htr9 := hI ((htr8.out.below hba).growO hown9 hg9 HAT9)
          have hB9 : Below Wb.heap.size Wb w9 := (hB8.trans (hba.mono hbs8)).grown hg9 (by simp; omega) (fun k hk => (htr8.out.oo.lt k hk).1)
          clear hown9 hg9 hat9 HAT9 hba htr8 hw0 hw1
          go_wp2
          go_roundw
          case rel => exact ⟨p + l.ifs.length + 1, _, _, no + n3 + 1, _, by go_num, htr9, hpw5, (by have h := hs5.out; rw [List.append_assoc] at h; exact h), by omega, by omega, hB9⟩
          case measure => simp [intOf] <;> omega
        ·have hlt' : ¬ ((p : Int) + (l.ifs.length : Int) < (n : Int)) := by omega
         have hs5 : Hid (AllAt l ws (p + l.ifs.length + 1) (out ++ cutM) (done ++ [((p : Int), nextW l ws out p)])) := by
          have := hs4.out
          rwa [List.drop_eq_nil_of_le (by rw [HWL.out]; omega), List.take_nil, List.append_nil] at this
         clear hs4
         go_wp2
         go_roundw
         case rel => exact ⟨p + l.ifs.length + 1, _, _, no + n3, _, by go_num, htr8, hpw5, hs5, by omega, by omega, hB8⟩
         case measure => simp [intOf] <;> omega
       ·have hs4 : Hid (AllAt l ws (p + l.ifs.length) (out ++ cutM) (done ++ [((p : Int), nextW l ws out p)])) := by
         have := hs3.out
         rwa [if_neg hk0, List.append_nil, show p + max l.ifs.length 1 = p + l.ifs.length by omega] at this
        have hk0' : ((l.ifs.length : Int) == 0) = false := by simpa using hk0
        have hk1 : 1 ≤ l.ifs.length := by omega
        clear hk0 hs3
        go_wp2
        go_roundw
        case rel => exact ⟨p + l.ifs.length, _, _, no + n3, _, by go_num, htr8, hpw5, hs4, by omega, by omega, hB8⟩
        case measure => simp [intOf] <;> omega
  ·have hres : trM l ws = (0, done.map (·.2)) := by unfold trM; rw [hat.out.fin (by rw [HWL.out]; omega)]; rfl
   have HRES := hI hres; clear hres
   have hfin' : ¬ ((p : Int) ≤ (n : Int)) := by omega
   obtain ⟨A8, c8, rfl⟩ := own_form htr.out.tr.ow
   go_wp2
   go_ret3
   refine ⟨u7, A8, ps.length, c8, ?_, ?_, hBb.trans (hB.mono hBb.size)⟩
   ·rw [HRES.out]; rfl
   ·rw [HRES.out]; show IsWords _ _ _ _ (done.map (·.2)); rw [← hpw.out]; exact htr.out.tr.words rfl
end Go.Proofs.YtcpcojgmmpnkoaaGreatDoor
namespace Go.Proofs.YtcpcojgmmpnkoaaGreatDoor
open Go.RowKit Go.Shelf
def trAll (l : LawD) (ws : List Snd) : Int × List (List Snd) := ((traceM l ws).1, (traceM l ws).2.map (·.2))
theorem trAll_bad {l : LawD} {ws : List Snd} (h : lcheckE l ws ≠ 0) : trAll l ws = (lcheckE l ws, []) := by unfold trAll traceM; rw [if_pos h]; rfl
theorem trAll_good {l : LawD} {ws : List Snd} (h : lcheckE l ws = 0) : trAll l ws = trM l ws := by
 unfold trAll traceM trM
 rw [if_neg (by simpa using h)]
 split <;> rfl
theorem lcheck_ok {l : LawD} {ws : List Snd} (h : lcheckE l ws = 0) : lawE l = 0 ∧ wcheck ws = 0 := by
 unfold lcheckE at h
 by_cases h1 : lawE l = 0
 ·rw [if_pos h1] at h; exact ⟨h1, h⟩
 ·rw [if_neg h1] at h; exact absurd h h1
theorem r8Trace_c (l : LawD) (a : LawA) (A : Option Addr) (n c : Nat) (ws : List Snd) (w : World) (hl : LawAt w l a) (hw : IsWord w A n c ws) (hu : LawU l) (hwu : WordU ws) :
  Calls Tryz.prog 176 #[lawV l a, .slice A n c] w (RetTr w (trAll l ws)) := by
 have HL := hI hl; clear hl
 have HW := hI hw; clear hw
 have HU := hI hu; clear hu
 have HWU := hI hwu; clear hwu
 obtain ⟨Wb, hWb, hrb, hlb, hBb, hzb⟩ := law_box w l a
 have HRB := hI hrb; clear hrb
 go_enter Tryz.func176, Tryz.ntmps176
 go_wp2_with (refine load_law rfl (.tmp 2) rfl w.heap.size l a rfl HRB.out ?_)
 clear hWb
 refine (r8check_c l a A n c ws _ (HL.out.below hBb rr) (HW.out.below hBb rr) HU.out HWU.out).mono ?_
 rintro e w1 ⟨rfl, hb1⟩
 have H1 : Hid (w1.heap[w.heap.size]? = some (.cells (lawCs l a) 34 (0, 0))) := (hb1.block _ hlb).trans HRB.out
 have hB1 : Below w.heap.size w w1 := hBb.trans (hb1.mono hBb.size)
 clear hb1 HRB
 by_cases hE : lcheckE l ws = 0
 ·have hE1 : (lcheckE l ws != 0) = false := by simpa using hE
  have HR := hI (trAll_good hE)
  obtain ⟨h1, h2⟩ := lcheck_ok hE
  obtain ⟨_, _, hmm, _⟩ := law_ok h1
  have HLE := hI h1; clear h1
  have HWC := hI h2; clear h2
  clear hE
  obtain ⟨d0, d1, d2, d3⟩ := law_reads H1.out
  rcases hmm with hm | hm | hm
  ·rw [hm] at d3
   have HM : Hid (l.mode = 1) := hm
   clear d0 d1 d2
   go_wp2_with (refine load_law rfl (.tmp 2) rfl w.heap.size l a rfl H1.out ?_)
   clear hm d3
   refine (r8all_c l a A n c ws w1 (HL.out.below hB1 rr) (HW.out.below hB1 rr) HU.out HWU.out HLE.out HWC.out HM.out).mono ?_
   rintro e w2 ⟨vp, A2, n2, c2, rfl, hws, hb2⟩
   have hB2 := hB1.trans (hb2.mono hB1.size)
   clear hb2
   go_wp2
   go_ret3
   exact ⟨vp, A2, n2, c2, by rw [HR.out]; rfl, by rw [HR.out]; exact hws, hB2⟩
  ·rw [hm] at d3
   have HM : Hid (l.mode = 2) := hm
   clear d0 d1 d2
   go_wp2_with (refine load_law rfl (.tmp 2) rfl w.heap.size l a rfl H1.out ?_)
   clear hm d3
   refine (r8right_c l a A n c ws w1 (HL.out.below hB1 rr) (HW.out.below hB1 rr) HU.out HWU.out HLE.out HWC.out HM.out).mono ?_
   rintro e w2 ⟨vp, A2, n2, c2, rfl, hws, hb2⟩
   have hB2 := hB1.trans (hb2.mono hB1.size)
   clear hb2
   go_wp2
   go_ret3
   exact ⟨vp, A2, n2, c2, by rw [HR.out]; rfl, by rw [HR.out]; exact hws, hB2⟩
  ·rw [hm] at d3
   have HM : Hid (l.mode = 3) := hm
   clear d0 d1 d2
   go_wp2_with (refine load_law rfl (.tmp 2) rfl w.heap.size l a rfl H1.out ?_)
   clear hm d3
   refine (r8left_c l a A n c ws w1 (HL.out.below hB1 rr) (HW.out.below hB1 rr) HU.out HWU.out HLE.out HWC.out HM.out).mono ?_
   rintro e w2 ⟨vp, A2, n2, c2, rfl, hws, hb2⟩
   have hB2 := hB1.trans (hb2.mono hB1.size)
   clear hb2
   go_wp2
   go_ret3
   exact ⟨vp, A2, n2, c2, by rw [HR.out]; rfl, by rw [HR.out]; exact hws, hB2⟩
 ·have hE1 : (lcheckE l ws != 0) = true := by simpa using hE
  have HR := hI (trAll_bad hE)
  clear hE
  go_wp2
  go_ret3
  exact ⟨.slice none 0 0, none, 0, 0, by rw [HR.out]; rfl, by rw [HR.out]; exact IsWords.nil _, hB1⟩
theorem r8Apply_c (l : LawD) (a : LawA) (A : Option Addr) (n c : Nat) (ws : List Snd) (w : World) (hl : LawAt w l a) (hw : IsWord w A n c ws) (hu : LawU l) (hwu : WordU ws) :
  Calls Tryz.prog 150 #[lawV l a, .slice A n c] w (RetWE w (applyM l ws)) := by
 have HL := hI hl; clear hl
 have HW := hI hw; clear hw
 have HU := hI hu; clear hu
 have HWU := hI hwu; clear hwu
 obtain ⟨Wb, hWb, hrb, hlb, hBb, hzb⟩ := law_box w l a
 have HRB := hI hrb; clear hrb
 go_enter Tryz.func150, Tryz.ntmps150
 go_wp2_with (refine load_law rfl (.tmp 2) rfl w.heap.size l a rfl HRB.out ?_)
 clear hWb
 refine (r8Trace_c l a A n c ws _ (HL.out.below hBb rr) (HW.out.below hBb rr) HU.out HWU.out).mono ?_
 rintro e w1 ⟨vp, A2, n2, c2, rfl, hws, hb1⟩
 have hB1 : Below w.heap.size w w1 := hBb.trans (hb1.mono hBb.size)
 have hb1s := hb1.size
 clear hb1 HRB
 have hn2 := hws.len
 have hn80 : n2 ≤ 80 := by
  rw [← hn2]
  unfold trAll traceM
  split
  ·simp
  ·split
   ·simp
   ·simp only [List.length_map]; exact runM_len _ _ _ _
 have h32 : ∀ x ∈ (trAll l ws).2, x.length ≤ 32 := by
  unfold trAll traceM
  split
  ·simp
  ·split
   ·simp
   ·intro x hx
    obtain ⟨y, hy, rfl⟩ := List.mem_map.1 hx
    exact runM_short l ws _ _ y hy
 have HB1 := hI hB1
 obtain ⟨er, her⟩ : ∃ er, er = (trAll l ws).1 := ⟨_, rfl⟩
 obtain ⟨xss, hxss⟩ : ∃ xss, xss = (trAll l ws).2 := ⟨_, rfl⟩
 rw [← hxss] at hn2 h32 hws
 rw [← her]
 have HWS := hI hws; clear hws
 have H32 := hI h32; clear h32
 have HER : Hid (er = (traceM l ws).1) := her
 have HXS : Hid (xss = (traceM l ws).2.map (·.2)) := hxss
 have HN2 := hI hn2
 clear her hxss hB1 hn2
 by_cases h0 : er = 0
 case neg =>
  have h1 : (er != 0) = true := by simpa using h0
  have HM : Hid (applyM l ws = (er, [])) := by show applyM l ws = _; unfold applyM; rw [← HER.out, if_pos h0]
  clear h0
  go_wp2
  go_ret2
  exact ⟨none, 0, 0, by rw [HM.out]; rfl, by rw [HM.out]; exact Cells.nil _ _, HB1.out, fun ad h => by cases h⟩
 have h1 : (er != 0) = false := by simpa using h0
 have HM : Hid (applyM l ws = (0, (xss.getLast?).getD ws)) := by show applyM l ws = _; rw [applyM_words l ws (by rw [← HER.out]; exact h0), HXS.out]
 have hwn : n ≤ 32 := by
  have h2 : lcheckE l ws = 0 := by
   by_cases h2 : lcheckE l ws = 0
   ·exact h2
   ·have := HER.out; unfold traceM at this; rw [if_pos h2, h0] at this; exact absurd this.symm h2
  have := (wcheck_iff.1 (lcheck_ok h2).2).1
  have h3 := HW.out.len
  omega
 clear h0
 by_cases hz : 0 < n2
 ·obtain ⟨m, rfl⟩ : ∃ m, n2 = m + 1 := ⟨n2 - 1, by omega⟩
  obtain ⟨b, off, A', n', c', xs, rfl, hbl, hcell, hxm, hwx⟩ := HWS.out.at_ (k := m) (by omega)
  have hmi : (m : Int) < (m : Int) + 1 := by omega
  have hmn : ((m : Int)).toNat = m := by omega
  have hn' : n' ≤ 32 := by have h := H32.out xs (List.mem_of_getElem? hxm); have h3 := hwx.len; omega
  have HM' : Hid (applyM l ws = (0, xs)) := by show applyM l ws = _; rw [HM.out, getLast_get (m := m) HN2.out, hxm]; rfl
  have HWX := hI hwx; clear hwx hxm
  have hba : Below w1.heap.size w1 (w1.alloc (.cells #[] 24)) := (Below.refl _ _).alloc rr _
  have HBA := hI hba; clear hba
  go_wp2_with (at_builtin; refine append_snd rfl (.tmp 25) (.tmp 31) rfl w1.heap.size (.slice (some ⟨w1.heap.size, 0, none⟩) 0 0) 0 [] rfl (World.ownsRow_lit w1 #[] 0 rr (by unfold maxLen; omega) rfl) A' n' c' xs rfl (HWX.out.below HBA.out rr) (by omega) (by simp) ?_; intro v4 w4 hown4 hg4 _)
  go_ret2
  obtain ⟨A4, c4, rfl⟩ := own_form hown4
  refine ⟨A4, 0 + n', c4, by rw [HM'.out]; rfl, ?_, ?_, fun ad had => ?_⟩
  ·rw [HM'.out]; exact Cells.of_own hown4 (by decide)
  ·exact (HB1.out.trans (HBA.out.mono HB1.out.size)).grown hg4 (by have := HB1.out.size; simp; omega) (fun k hk => by have h : w1.heap.size = k := (by simpa [Value.ownBlock] using hk); have := HB1.out.size; omega)
  ·have := (hown4.lt ad.block (by rw [had]; rfl)).1; have := HB1.out.size; omega
 ·obtain rfl : n2 = 0 := by omega
  have hxs : xss = [] := List.eq_nil_of_length_eq_zero HN2.out
  have HM' : Hid (applyM l ws = (0, ws)) := by show applyM l ws = _; rw [HM.out, hxs]; rfl
  clear hxs
  have hba : Below w1.heap.size w1 (w1.alloc (.cells #[] 24)) := (Below.refl _ _).alloc rr _
  have HBA := hI hba; clear hba
  go_wp2_with (at_builtin; refine append_snd rfl (.tmp 22) (.tmp 23) rfl w1.heap.size (.slice (some ⟨w1.heap.size, 0, none⟩) 0 0) 0 [] rfl (World.ownsRow_lit w1 #[] 0 rr (by unfold maxLen; omega) rfl) A n c ws rfl (HW.out.below (HB1.out.trans (HBA.out.mono HB1.out.size)) rr) (by omega) (by simp) ?_; intro v4 w4 hown4 hg4 _)
  go_ret2
  obtain ⟨A4, c4, rfl⟩ := own_form hown4
  refine ⟨A4, 0 + n, c4, by rw [HM'.out]; rfl, ?_, ?_, fun ad had => ?_⟩
  ·rw [HM'.out]; exact Cells.of_own hown4 (by decide)
  ·exact (HB1.out.trans (HBA.out.mono HB1.out.size)).grown hg4 (by have := HB1.out.size; simp; omega) (fun k hk => by have h : w1.heap.size = k := (by simpa [Value.ownBlock] using hk); have := HB1.out.size; omega)
  ·have := (hown4.lt ad.block (by rw [had]; rfl)).1; have := HB1.out.size; omega
end Go.Proofs.YtcpcojgmmpnkoaaGreatDoor

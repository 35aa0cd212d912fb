/-
  ablautref10: Check.
  ablautref10: Forms.
-/
import Derived.Test.YtcpcojgmmpnkoaaGreatDoorG27
set_option linter.all false
set_option maxRecDepth 100000
set_option maxHeartbeats 4000000
namespace Go.Proofs.YtcpcojgmmpnkoaaGreatDoor
open Go.RowKit Go.Shelf
def LawsU (xs : List LawR) : Prop := ∀ x ∈ xs, LawU x.l
theorem r10Check_c (A : Option Addr) (n c : Nat) (xs : List LawR) (w : World) (hx : IsLaws w A n c xs) (hu : LawsU xs) :
  Calls Tryz.prog 133 #[.slice A n c] w fun e w' => e = .returned (.int .i64 (lawsE (lawsD xs))) ∧ Below w.heap.size w w' := by
 have hm := hx.max
 have HX := hI hx; clear hx
 have HU := hI hu; clear hu
 have HLN : Hid ((lawsD xs).length = n) := by show (lawsD xs).length = n; rw [lawsD, List.length_map]; exact HX.out.len
 go_enter Tryz.func133, Tryz.ntmps133
 by_cases h64 : 64 < n
 ·have hr : lawsE (lawsD xs) = 12 := by unfold lawsE; rw [if_pos (by rw [HLN.out]; exact h64)]
  have HR := hI hr; clear hr
  go_wp2
  go_ret
  exact ⟨by rw [HR.out]; rfl, Below.refl _ _⟩
 ·have hr : lawsE (lawsD xs) = if (lawsD xs).any (fun l => lawE l != 0) then 17 else 0 := by unfold lawsE; rw [if_neg (by rw [HLN.out]; exact h64)]
  have HR := hI hr; clear hr
  go_wp2_with fail
  go_loopw [3] (fun i wr => ∃ k : Nat, k ≤ n ∧ i = .int .i64 k ∧ Hid ((xs.take k).any (fun x => lawE x.l != 0) = false) ∧ Below w.heap.size w wr) (fun i _ => n - (intOf i).toNat)
  case atStart => exact ⟨0, Nat.zero_le _, rfl, rfl, Below.refl _ _⟩
  case round =>
   obtain ⟨k, hk, rfl, hall, hB⟩ := hrel
   have hBs := hB.size
   by_cases hlt : k < n
   ·obtain ⟨x, hxk⟩ := HX.out.get hlt
    obtain ⟨b, off, rfl, hbl, hrg⟩ := (HX.out.below hB rr).at_ hxk
    have hlt' : (k : Int) < (n : Int) := by omega
    have hmem := List.mem_of_getElem? hxk
    have HS := hI (take_snoc' xs k x hxk)
    have HRG := hI hrg; clear hrg
    have HLA : Hid (LawAt wr x.l x.a) := (HX.out.below hB rr).2 x hmem
    have HLU : Hid (LawU x.l) := HU.out x hmem
    have HMEM := hI hmem; clear hmem hxk
    go_wp2_with (refine load_lawM rfl (.tmp 15) rfl b (off + k * 18) x rfl HRG.out ?_)
    refine (r8Check_c x.l x.a wr HLA.out HLU.out).mono ?_
    rintro e w5 ⟨rfl, hb5⟩
    have hB5 := hB.trans (hb5.mono hBs)
    clear hb5
    by_cases hv : lawE x.l = 0
    ·have hv' : (lawE x.l != 0) = false := by simpa using hv
     have HG : Hid ((xs.take (k + 1)).any (fun x => lawE x.l != 0) = false) := by show _ = _; rw [HS.out, List.any_append, hall.out]; simp [hv]
     clear hv
     go_wp2
     go_roundw
     case rel => exact ⟨k + 1, by omega, by go_num, HG, hB5⟩
     case measure => simp [intOf]; omega
    ·have hv' : (lawE x.l != 0) = true := by simpa using hv
     have hf : lawsE (lawsD xs) = 17 := by
      rw [HR.out, if_pos]
      exact List.any_eq_true.2 ⟨x.l, List.mem_map.2 ⟨x, HMEM.out, rfl⟩, hv'⟩
     have HF := hI hf; clear hf hv
     go_wp2
     go_ret
     exact ⟨by rw [HF.out]; rfl, hB5⟩
   ·obtain rfl : k = n := by omega
    have hf : lawsE (lawsD xs) = 0 := by
     have := hall.out
     rw [List.take_of_length_le (by rw [HX.out.len]; exact rr)] at this
     rw [HR.out, if_neg]
     rw [lawsD, List.any_map]
     intro h
     have h2 : xs.any (fun x => lawE x.l != 0) = true := h
     rw [this] at h2; cases h2
    have HF := hI hf; clear hf
    go_wp2
    go_ret
    exact ⟨by rw [HF.out]; rfl, hB⟩
end Go.Proofs.YtcpcojgmmpnkoaaGreatDoor
namespace Go.Proofs.YtcpcojgmmpnkoaaGreatDoor
open Go.RowKit Go.Shelf
attribute [local go_sem] Oper.semAt_some
theorem stepM_u {l : LawD} {ws : List Snd} {r : RS} (hw : WordU ws) (hn : WordU r.now) : WordU (stepM l ws r).2.now ∧ ∀ x, (stepM l ws r).1 = some x → WordU x.2 := by
 unfold stepM
 split
 ·split
  ·have : WordU (r.now.take (r.at_ + r.shift).toNat ++ putM l ((ws.drop r.at_.toNat).take l.ifs.length) ++ ws.drop (r.at_.toNat + l.ifs.length)) := ((hn.take _).append (putM_u l _)).append (hw.drop _)
   exact ⟨this, fun x hx => by obtain rfl := Option.some.inj hx; exact this⟩
  ·exact ⟨hn, fun x hx => by cases hx⟩
 ·split
  ·split
   ·exact ⟨replaceM_u hn, fun x hx => by obtain rfl := Option.some.inj hx; exact replaceM_u hn⟩
   ·exact ⟨hn, fun x hx => by cases hx⟩
  ·split
   ·exact ⟨replaceM_u hn, fun x hx => by obtain rfl := Option.some.inj hx; exact replaceM_u hn⟩
   ·exact ⟨hn, fun x hx => by cases hx⟩
theorem runM_u {l : LawD} {ws : List Snd} (hw : WordU ws) : ∀ (f : Nat) (r : RS), WordU r.now → ∀ x ∈ (runM l ws f r).1, WordU x.2
 | 0, _, _, x, h => by simp [runM] at h
 | f + 1, r, hn, x, h => by
  have hs := stepM_u (l := l) (r := r) hw hn
  rw [runM] at h
  split at h
  ·simp at h
  ·split at h
   ·rename_i r' he
    rw [he] at hs
    exact runM_u hw f _ hs.1 x h
   ·rename_i p now r' he
    rw [he] at hs
    split at h
    ·simp at h
    ·simp only [List.mem_cons] at h
     rcases h with rfl | h
     ·exact hs.2 _ rfl
     ·exact runM_u hw f _ hs.1 x h
theorem applyM_u {l : LawD} {ws : List Snd} (hw : WordU ws) : WordU (applyM l ws).2 := by
 unfold applyM
 split
 ·intro s hs; simp at hs
 ·have hn : WordU (startM l ws).now := by unfold startM; split <;> exact hw
  dsimp only
  split
  ·rename_i x hx
   have h1 := List.mem_of_getLast? hx
   unfold traceM at h1
   split at h1
   ·simp at h1
   ·split at h1
    ·simp at h1
    ·exact runM_u hw _ _ hn x h1
  ·exact hw
theorem yields_law2 {ops : Array Oper} {S : World → Prop} {op : Oper} {ac : Act} (hw : Region.wanted op (yielded ops ac.tmps) = true) (x : Operand) (ho : op.op = .load 34 x)
  (b o : Nat) (s : LawR) (hx : ac.eval x = .pointer (some ⟨b, o, none⟩)) (hS : ∀ w, S w → w.rangeAt b o s.cells) : YieldsIf Tryz.prog ops S op (lawV s.l s.a) ac :=
 .inl ⟨hw, fun w hw' => by
  unfold execOp
  simp only [ho, hx, Instr.loadAt, Instr.sureAddr, Sem.run_bind, Sem.run_pure, Result.andThen_ok, run_load_lawM (hS w hw')]⟩
theorem chk_one (ls : List LawD) (ws : List Snd) : chkM ls [ws] = if lawsE ls ≠ 0 then lawsE ls else wcheck ws := by
 unfold chkM firstE
 split
 ·rfl
 ·rw [if_neg (by simp)]
  by_cases h : wcheck ws = 0
  ·rw [h]; simp [h]
  ·simp [h]
def RetWsF (w : World) (r : Int × List (List Snd)) (e : Ending) (w' : World) : Prop :=
 ∃ A n c, ∃ ps : List Part, e = .returned (.tuple #[.slice A n c, .int .i64 r.1]) ∧ ps.map Part.word = r.2 ∧ Cells w' A n c 1 (ps.map Part.val) ∧ Parts w' ps ∧ (∀ p ∈ ps, ∀ ad, p.1 = some ad → w.heap.size ≤ ad.block) ∧ Below w.heap.size w w'
theorem RetWsF.plain {w : World} {r : Int × List (List Snd)} {e : Ending} {w' : World} (h : RetWsF w r e w') : RetWsE w r e w' := by
 obtain ⟨A, n, c, ps, h1, h2, h3, h4, _, h6⟩ := h
 exact ⟨A, n, c, h1, ⟨ps, h2, h3, h4⟩, h6⟩
theorem r10FormsF_c (A : Option Addr) (n c : Nat) (xs : List LawR) (A' : Option Addr) (n' c' : Nat) (ws : List Snd) (w : World) (hx : IsLaws w A n c xs) (hw : IsWord w A' n' c' ws) (hu : LawsU xs) (hwu : WordU ws) :
  Calls Tryz.prog 166 #[.slice A n c, .slice A' n' c'] w (RetWsF w (formsE (lawsD xs) ws)) := by
 have hm := hx.max
 have HX := hI hx; clear hx
 have HW := hI hw; clear hw
 have HU := hI hu; clear hu
 have HWU := hI hwu; clear hwu
 have HLN : Hid ((lawsD xs).length = n) := by show (lawsD xs).length = n; rw [lawsD, List.length_map]; exact HX.out.len
 go_enter Tryz.func166, Tryz.ntmps166
 go_wp2_with fail
 refine (r10Check_c A n c xs w HX.out HU.out).mono ?_
 rintro e w1 ⟨rfl, hB1⟩
 have hb1s := hB1.size
 by_cases hE : lawsE (lawsD xs) = 0
 case neg =>
  have hr : formsE (lawsD xs) ws = (lawsE (lawsD xs), []) := by unfold formsE; rw [chk_one, if_pos hE, if_pos hE]
  have HR := hI hr; clear hr
  have hE1 : (lawsE (lawsD xs) != 0) = true := by simpa using hE
  have hE2 : (lawsE (lawsD xs) == 0) = false := by simpa using hE
  clear hE
  go_wp2
  go_ret2
  exact ⟨none, 0, 0, [], by rw [HR.out]; rfl, by rw [HR.out]; rfl, Cells.nil _ _, fun p hp => (by simp at hp), fun p hp => (by simp at hp), hB1⟩
 have h64 : n ≤ 64 := by rw [← HLN.out]; exact lawsE_len hE
 have hE2 : (lawsE (lawsD xs) == 0) = true := by simpa using hE
 have HE := hI hE; clear hE
 go_wp2_with fail
 refine (r2Check_c A' n' c' ws w1 (HW.out.below hB1 rr) HWU.out).mono ?_
 rintro e w2 ⟨rfl, hb2⟩
 have hB2 : Below w.heap.size w w2 := hB1.trans (hb2.mono hb1s)
 clear hb2
 have hchk : chkM (lawsD xs) [ws] = wcheck ws := by rw [chk_one, if_neg (by rw [HE.out]; decide)]
 by_cases hC : wcheck ws = 0
 case neg =>
  have hr : formsE (lawsD xs) ws = (wcheck ws, []) := by unfold formsE; rw [hchk, if_pos hC]
  have HR := hI hr; clear hr hchk
  have hE1 : (wcheck ws != 0) = true := by simpa using hC
  clear hC hE2
  go_wp2
  go_ret2
  exact ⟨none, 0, 0, [], by rw [HR.out]; rfl, by rw [HR.out]; rfl, Cells.nil _ _, fun p hp => (by simp at hp), fun p hp => (by simp at hp), hB2⟩
 have hr : formsE (lawsD xs) ws = if (formsM (lawsD xs) ws).1 ≠ 0 then ((formsM (lawsD xs) ws).1, []) else (0, (formsM (lawsD xs) ws).2) := by unfold formsE; rw [hchk, if_neg (by simpa using hC)]
 have HR := hI hr; clear hr hchk
 have hn32 : n' ≤ 32 := by rw [← HW.out.len]; exact (wcheck_iff.1 hC).1
 have hw32 : Hid (ws.length ≤ 32) := (wcheck_iff.1 hC).1
 have hE1 : (wcheck ws != 0) = false := by simpa using hC
 clear hC hE2
 go_wp2_with fail
 refine (r2Copy_c A' n' c' ws w2 (HW.out.below hB2 rr) (by omega)).mono ?_
 rintro e w3 ⟨A3, n3, c3, rfl, hw3, hb3, hf3⟩
 have hB3 : Below w.heap.size w w3 := hB2.trans (hb3.mono hB2.size)
 have htr : TrOK (w3.alloc (.cells #[.slice A3 n3 c3] 32)) w3.heap.size (.slice none 0 0) (.slice (some ⟨w3.heap.size, 0, none⟩) 1 1) 0 [((A3, n3, c3, ws) : Part)] := by
  have hba : Below w3.heap.size w3 (w3.alloc (.cells #[.slice A3 n3 c3] 32)) := (Below.refl _ _).alloc rr _
  refine ⟨⟨[], World.ownsRow_nil _ _ _ _⟩, World.ownsRow_lit w3 #[.slice A3 n3 c3] 1 rr (by unfold maxLen; omega) rfl, fun k h => (by cases h), fun p hp => ?_, by simp⟩
  obtain rfl : p = (A3, n3, c3, ws) := by simpa using hp
  refine ⟨⟨hw3.below hba rr, fun ad _ _ h => (by cases h)⟩, hw3.below hba rr, fun ad had hn e => ?_⟩
  have h1 := part_lt (p := (A3, n3, c3, ws)) hw3 had hn
  have h2 : w3.heap.size = ad.block := by simpa [Value.ownBlock] using e
  omega
 have hB4 : Below w.heap.size w (w3.alloc (.cells #[.slice A3 n3 c3] 32)) := hB3.alloc hB3.size _
 have HF3 : Hid (∀ p ∈ [((A3, n3, c3, ws) : Part)], ∀ ad, p.1 = some ad → w.heap.size ≤ ad.block) := fun p hp ad had => by
  obtain rfl : p = (A3, n3, c3, ws) := by simpa using hp
  exact Nat.le_trans hB2.size (hf3 ad had)
 have HB3 := hI hB3; clear hB3
 have HTR := hI htr; clear htr hw3 hb3 hf3 hE1 hB1 hB2 hb1s
 go_wp2_with fail
 go_loopw [7, 8] (fun vw i wr => ∃ (k : Nat) (ps : List Part) (x : List Snd), i = .int .i64 k ∧ k ≤ n ∧ ps.length = k + 1 ∧ Hid (TrOK wr w3.heap.size (.slice none 0 0) vw 0 ps) ∧ Hid (ps.map Part.word = (formsM (lawsD xs) ws).2.take (k + 1)) ∧ Hid (FormSt (lawsD xs) ws k x) ∧
  Hid (WordU x) ∧ Hid (x.length ≤ 32) ∧ Hid (∀ p ∈ ps, ∀ ad, p.1 = some ad → w.heap.size ≤ ad.block) ∧ Below w.heap.size w wr) (fun _ i _ => n - (intOf i).toNat)
 case atStart =>
  refine ⟨0, _, ws, rfl, Nat.zero_le _, rfl, HTR.out, ?_, FormSt.start _ _, HWU.out, hw32.out, HF3.out, hB4⟩
  show _ = _
  obtain ⟨r, hr⟩ := formsM_pos (lawsD xs) ws
  rw [hr]; rfl
 case round =>
  obtain ⟨k, ps, x, rfl, hk, hpl, htr, hpw, hfs, hxu, hx32, hfr, hB⟩ := hrel
  have hBs := hB.size
  by_cases hlt : k < n
  ·obtain ⟨s, hsk⟩ := HX.out.get hlt
   obtain ⟨b, off, hA, hbl, hrg⟩ := (HX.out.below hB rr).at_ hsk
   subst hA
   have hlt' : (k : Int) < (n : Int) := by omega
   have hmem := List.mem_of_getElem? hsk
   have HLA : Hid (LawAt wr s.l s.a) := (HX.out.below hB rr).2 s hmem
   have HLU : Hid (LawU s.l) := HU.out s hmem
   have HSK : Hid ((lawsD xs)[k]? = some s.l) := by show (lawsD xs)[k]? = some s.l; rw [lawsD, List.getElem?_map, hsk]; rfl
   have HRG := hI hrg; clear hrg hmem hsk
   obtain ⟨A7, c7, rfl⟩ := own_form htr.out.ow
   rw [hpl] at htr
   have hwsl := htr.out.words hpl.symm
   obtain ⟨b2, off2, A8, n8, c8, x', hA8, hb2l, hcell, hxk, hwx⟩ := hwsl.at_ (k := k) (by omega)
   have hxe : x' = x := by
    have h1 := hfs.out.get
    rw [hpw.out, List.getElem?_take, if_pos (by omega), h1] at hxk
    exact (Option.some.inj hxk).symm
   subst hxe
   subst hA8
   have HWX := hI hwx; clear hwx hxk hwsl
   have hpl' : ps.length ≤ 65 := by omega
   have hkk : (k : Int) < (k : Int) + 1 := by omega
   have hkn : ((k : Int)).toNat = k := by omega
   go_wp2
   refine plain_region (fun W' => W'.rangeAt b (off + k * 18) s.cells ∧ W'.cell? ⟨b2, off2 + k, none⟩ = some (.slice A8 n8 c8)) (by kernel_rfl) ⟨HRG.out, hcell⟩ (fun hHeld => ?_)
   (refine' anyT_tk 0 rfl ?_; (try simp only [Act.put, nY, nX])); (refine' anyT_tk 1 rfl ?_; (try simp only [Act.put, nY, nX])); (refine' anyT_tk 2 rfl ?_; (try simp only [Act.put, nY, nX]))
   (refine' anyT_take (i := 3) (v := lawV s.l s.a) rfl (by kernel_rfl) (by kernel_rfl) (by kernel_rfl) (by kernel_rfl) (fun _ _ _ h => h) (yields_law2 (by rfl) (.tmp 32) rfl b (off + k * 18) s (by rfl) (fun _ h => h.1)) (by assumption) ?_; (try simp only [Act.put, nY, nX]))
   (refine' anyT_tk 4 rfl ?_; (try simp only [Act.put, nY, nX])); (refine' anyT_tk 5 rfl ?_; (try simp only [Act.put, nY, nX])); (refine' anyT_tk 6 rfl ?_; (try simp only [Act.put, nY, nX])); (refine' anyT_tk 7 rfl ?_; (try simp only [Act.put, nY, nX]))
   (refine anyT_sp 8 rfl (fun K' hK' => ?_); simp only [nY]; go_simp)
   have hd : Below wr.heap.size wr wr.drew := (Below.refl wr.heap.size wr).drew
   refine (r8Apply_c s.l s.a A8 n8 c8 x' _ (HLA.out.below hd rr) (HWX.out.below hd rr) HLU.out hxu.out).mono ?_
   rintro e w5 ⟨A5, n5, c5, rfl, hw5, hb5', hf5⟩
   have hb5 : Below wr.heap.size wr w5 := hd.trans hb5'
   have hB5 := hB.trans (hb5.mono hBs)
   have hS5 : w5.rangeAt b (off + k * 18) s.cells ∧ w5.cell? ⟨b2, off2 + k, none⟩ = some (.slice A8 n8 c8) := ⟨fun i v hv => (hb5.cell (p := ⟨b, _, none⟩) hbl).trans (HRG.out i v hv), (hb5.cell (p := ⟨b2, off2 + k, none⟩) hb2l).trans hcell⟩
   have htr5 : Hid (TrOK w5 w3.heap.size (.slice none 0 0) (.slice (some ⟨b2, off2, none⟩) (k + 1) c7) 0 ps) := htr.out.below hb5
   have hq5 := hI (htr.out.fresh (q := (A5, n5, c5, (applyM s.l x').2)) hw5 hf5)
   have hfr5 : Hid (∀ p ∈ ps ++ [((A5, n5, c5, (applyM s.l x').2) : Part)], ∀ ad, p.1 = some ad → w.heap.size ≤ ad.block) := fun p hp ad had => by
    rcases List.mem_append.1 hp with hp | hp
    ·exact hfr.out p hp ad had
    ·obtain rfl : p = (A5, n5, c5, (applyM s.l x').2) := by simpa using hp
     exact Nat.le_trans hB.size (hf5 ad had)
   clear hd hb5' hb5 hw5 hf5 htr
   refine hK' _ _ ⟨.inr hS5, fun _ => ?_⟩
   clear hK' K' hHeld hcell
   (try simp only [Act.put, nY, nX])
   (refine' anyT_tk 9 rfl ?_; (try simp only [Act.put, nY, nX])); (refine' anyT_tk 10 rfl ?_; (try simp only [Act.put, nY, nX])); (refine' anyT_tk 11 rfl ?_; (try simp only [Act.put, nY, nX])); (refine' anyT_tk 12 rfl ?_; (try simp only [Act.put, nY, nX]))
   (refine anyT_sp 13 rfl (fun K' hK' => ?_); simp only [nY]; go_simp)
   refine hK' _ _ ⟨.inl (by kernel_rfl), fun _ => anyT_done (by kernel_rfl) ?_ _⟩
   clear hK' K' hS5
   obtain ⟨er, her⟩ : ∃ er, er = (applyM s.l x').1 := ⟨_, rfl⟩
   rw [← her]
   have HER := hI her; clear her
   by_cases h0 : er = 0
   ·have h1 : (er != 0) = false := by simpa using h0
    have h0' : (applyM s.l x').1 = 0 := by rw [← HER.out]; exact h0
    have hfs2 : Hid (FormSt (lawsD xs) ws (k + 1) (applyM s.l x').2) := hfs.out.step HSK.out h0'
    have hpw2 : Hid ((ps ++ [((A5, n5, c5, (applyM s.l x').2) : Part)]).map Part.word = (formsM (lawsD xs) ws).2.take (k + 1 + 1)) := by
     show _ = _
     rw [take_snoc' _ _ _ hfs2.out.get, List.map_append, hpw.out]; rfl
    have hxu2 : Hid (WordU (applyM s.l x').2) := applyM_u hxu.out
    have hx322 : Hid ((applyM s.l x').2.length ≤ 32) := applyM_short hx32.out
    clear h0 h0'
    go_wp2_with (at_builtin; refine append_wd rfl (.tmp 44) (.tmp 46) rfl w3.heap.size (.slice (some ⟨b2, off2, none⟩) (k + 1) c7) ps.length (ps.map Part.val) rfl (htr5.out.ow.alloc _) ⟨w5.heap.size, 0, none⟩ 1 (.slice A5 n5 c5) rfl (cell_one_new _ _ _) rfl (by omega) ?hz2 ?hc2)
    case hz2 => have := htr5.out.sz; simp; omega
    case hc2 =>
     intro v6 w6 hown6 hg6 hat6
     have HAT6 : v6.ownBlock = (Value.slice (some ⟨b2, off2, none⟩) (k + 1) c7).ownBlock ∨ v6.ownBlock = some (w5.alloc (.cells #[.slice A5 n5 c5] 32)).heap.size := hat6.imp id (fun e => e.trans (by simp))
     have hba : Below w5.heap.size w5 (w5.alloc (.cells #[.slice A5 n5 c5] 32)) := (Below.refl _ _).alloc rr _
     have h6 := ((htr5.out.below hba).pushW (q := (A5, n5, c5, (applyM s.l x').2)) ⟨hq5.out.1.below hba, hq5.out.2.below hba⟩ (by rw [hpl]; exact hown6) hg6 HAT6).1
     have H6 := hI h6
     have hlt6 := (htr5.out.below hba).lts.2
     have hB6 : Below w.heap.size w w6 := (hB5.trans (hba.mono hB5.size)).grown hg6 (by have := hB5.size; simp; omega) (fun j hj => by have := (hlt6 j hj).1; have := HB3.out.size; omega)
     clear h6 hown6 hg6 hat6 HAT6 hba hlt6 htr5 hq5
     go_wp2
     go_roundw
     case rel => exact ⟨k + 1, _, _, by go_num, by omega, (by rw [List.length_append, hpl]; rfl), H6, hpw2, hfs2, hxu2, hx322, hfr5, hB6⟩
     case measure => simp [intOf] <;> omega
   ·have h1 : (er != 0) = true := by simpa using h0
    have hf := hfs.out.fail HSK.out (by rw [← HER.out]; exact h0)
    have hres : formsE (lawsD xs) ws = (er, []) := by rw [HR.out, hf.1, ← HER.out, if_pos h0]
    have HRES := hI hres; clear hres hf h0
    go_wp2
    go_ret2
    exact ⟨none, 0, 0, [], by rw [HRES.out]; rfl, by rw [HRES.out]; rfl, Cells.nil _ _, fun p hp => (by simp at hp), fun p hp => (by simp at hp), hB5⟩
  ·obtain rfl : k = n := by omega
   have hf : (formsM (lawsD xs) ws).1 = 0 ∧ (formsM (lawsD xs) ws).2.length = (lawsD xs).length + 1 := by
    refine FormSt.fin (x := x) ?_
    rw [HLN.out]; exact hfs.out
   have hres : formsE (lawsD xs) ws = (0, ps.map Part.word) := by
    rw [HR.out, hf.1, if_neg (by simp), hpw.out, List.take_of_length_le (by rw [hf.2, HLN.out]; exact rr)]
   have HRES := hI hres; clear hres hf
   obtain ⟨A7, c7, rfl⟩ := own_form htr.out.ow
   go_wp2
   go_ret2
   exact ⟨A7, ps.length, c7, ps, by rw [HRES.out]; rfl, by rw [HRES.out], Cells.of_own htr.out.ow (by decide), fun p hp => (htr.out.pp p hp).1.1, hfr.out, hB⟩
end Go.Proofs.YtcpcojgmmpnkoaaGreatDoor

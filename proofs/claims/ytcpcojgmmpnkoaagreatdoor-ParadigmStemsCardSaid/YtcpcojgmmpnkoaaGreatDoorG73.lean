/-
  paradigm: Stem and Endings again: what they return may be written.
-/
import Derived.Test.YtcpcojgmmpnkoaaGreatDoorG63
set_option linter.unusedVariables false
set_option linter.unusedSimpArgs false
set_option maxRecDepth 100000
set_option maxHeartbeats 4000000
namespace Go.Proofs.YtcpcojgmmpnkoaaGreatDoor
open Go.RowKit Go.Shelf
theorem there_heap {w w' : World} {b o n : Nat} (h : w.there b o n) (hk : w'.heap[b]? = w.heap[b]?) : w'.there b o n := fun j hj => by
 have h1 := h j hj
 have h2 : w'.cell? ⟨b, o + j, none⟩ = w.cell? ⟨b, o + j, none⟩ := World.cell?_of_block hk
 refine ⟨by rw [h2]; exact h1.1, ?_⟩
 have h3 : w'.frozen? ⟨b, o + j, none⟩ = w.frozen? ⟨b, o + j, none⟩ := by unfold World.frozen?; rw [show w'.heap[(⟨b, o + j, none⟩ : Addr).block]? = w.heap[b]? from hk]
 rw [h3]; exact h1.2
def ThereP (w : World) (p : Part) : Prop := ∀ ad, p.1 = some ad → 0 < p.2.1 → ad = ⟨ad.block, 0, none⟩ ∧ ad.block < w.heap.size ∧ w.there ad.block 0 (p.2.1 * 2)
theorem ThereP.below {w w' : World} {p : Part} (h : ThereP w p) (hb : Below w.heap.size w w') : ThereP w' p := fun ad had hn => by
 obtain ⟨h1, h2, h3⟩ := h ad had hn
 exact ⟨h1, Nat.lt_of_lt_of_le h2 hb.size, there_heap h3 (hb.block _ h2)⟩
theorem ThereP.setCells {w : World} {p : Part} (h : ThereP w p) (g o : Nat) (vs : List Value) : ThereP (w.setCells g o vs) p := fun ad had hn => by
 obtain ⟨h1, h2, h3⟩ := h ad had hn
 exact ⟨h1, by rw [size_setCells]; exact h2, World.there_setCells h3 g o vs⟩
theorem ThereP.of_own {w : World} {B : Nat} {t : TypeId} {A : Option Addr} {n c : Nat} {xs : List Snd} (h : w.ownsRow B t 2 (.slice A n c) n (wcells xs)) : ThereP w (A, n, c, xs) := fun ad had hn => by
 obtain ⟨g, c', hv, hb, hlt⟩ := own_block h hn
 have had' : A = some ad := had
 injection hv with hA _ hc
 rw [had'] at hA
 injection hA with hA
 subst hA had' hc
 have h2 := own_there_from h (Nat.zero_le n)
 exact ⟨rfl, hlt, by simpa using h2⟩
structure EndsSto (B g n : Nat) (fs : List FormR) (w : World) : Prop where
 own : w.ownsRow B 77 2 (.slice (some ⟨g, 0, none⟩) n n) n (fs.flatMap FormR.cells)
 ww : ∀ f ∈ fs, IsWord w f.p.1 f.p.2.1 f.p.2.2.1 f.p.2.2.2 ∧ (∀ ad, f.p.1 = some ad → g < ad.block) ∧ ThereP w f.p
theorem EndsSto.below {B g n : Nat} {fs : List FormR} {w w' : World} (h : EndsSto B g n fs w) (hb : Below w.heap.size w w') : EndsSto B g n fs w' :=
 ⟨own_heap h.own fun k e => hb.block k (h.own.lt k e).2, fun f hf => ⟨(h.ww f hf).1.below hb rr, (h.ww f hf).2.1, (h.ww f hf).2.2.below hb⟩⟩
theorem EndsSto.set {B g n : Nat} {fs : List FormR} {w : World} (h : EndsSto B g n fs w) {k : Nat} (hk : k < n) (f : FormR) (hf : IsWord w f.p.1 f.p.2.1 f.p.2.2.1 f.p.2.2.2 ∧ (∀ ad, f.p.1 = some ad → g < ad.block) ∧ ThereP w f.p) : EndsSto B g n (fs.set k f) (w.setCells g (k * 2) f.cells) := by
 refine ⟨own_set FormR.len h.own (by decide) hk f, fun x hx => ?_⟩
 have hk2 : Keep (fun j => j = g) w (w.setCells g (k * 2) f.cells) := keep_setCells (S := fun j => j = g) g rfl _ _ _ (Keep.refl _ _)
 have h2 : IsWord w x.p.1 x.p.2.1 x.p.2.2.1 x.p.2.2.2 ∧ (∀ ad, x.p.1 = some ad → g < ad.block) ∧ ThereP w x.p := by
  rcases List.mem_or_eq_of_mem_set hx with h1 | h1
  ·exact h.ww x h1
  ·rw [h1]; exact hf
 exact ⟨h2.1.keep hk2 fun _ ad had e => by have := h2.2.1 ad had; omega, h2.2.1, h2.2.2.setCells g (k * 2) f.cells⟩
def OwnFormso (B : Nat) (w : World) (A : Option Addr) (n c : Nat) (l : List Frm) : Prop :=
 ∃ fs : List FormR, fs.map FormR.data = l ∧ w.ownsRow B 77 2 (.slice A n c) n (fs.flatMap FormR.cells) ∧ ∀ f ∈ fs, IsWord w f.p.1 f.p.2.1 f.p.2.2.1 f.p.2.2.2 ∧ (∀ ad, f.p.1 = some ad → B ≤ ad.block) ∧ (∀ ad a, f.p.1 = some ad → A = some a → a.block < ad.block) ∧ ThereP w f.p
theorem OwnFormso.forms {B : Nat} {w : World} {A : Option Addr} {n c : Nat} {l : List Frm} (h : OwnFormso B w A n c l) : IsForms w A n c l := by
 obtain ⟨fs, h1, h2, h3⟩ := h
 exact ⟨fs, h1, Recs.of_own h2 FormR.len (by decide), fun f hf => (h3 f hf).1⟩
def RetFmso (w : World) (l : List Frm) (e : Ending) (w' : World) : Prop := ∃ A n c, e = .returned (.slice A n c) ∧ OwnFormso w.heap.size w' A n c l ∧ Below w.heap.size w w'
theorem OwnFormso.nil (B : Nat) (w : World) : OwnFormso B w none 0 0 [] := ⟨[], rfl, World.ownsRow_nil _ _ _ _, fun f hf => by cases hf⟩
theorem pEndso_c (A : Option Addr) (n c : Nat) (l : List Frm) (w : World) (hx : IsForms w A n c l) (hn : n ≤ 4096) (hok : ∀ x ∈ l, x.2.length ≤ 4096) :
  Calls Tryz.prog 111 #[.slice A n c] w (RetFmso w (endsOf l)) := by
 have hm := hx.max
 have HX := hI hx; clear hx
 have HOK := hI hok; clear hok
 go_enter Tryz.func111, Tryz.ntmps111
 go_wp2_with fail
 refine (pStemL_c A n c l w HX.out).mono ?_
 obtain ⟨z, hz⟩ : ∃ z, z = stemN l := ⟨_, rfl⟩
 rintro e w1 ⟨⟨v, rfl, hat⟩, hB1⟩
 rw [← hz]
 have HZ := hI hz; clear hz
 have HB1 := hI hB1
 clear hat hB1
 have hmk := fun w => run_make_forms n hn w
 go_wp2_with fail
 clear hmk
 have hown0 := World.ownsRow_lit (base := w1.heap.size) (size := 2) (e := 77) w1 ((List.replicate n formZ).flatMap FormR.cells).toArray n rr (by unfold maxLen; omega) (by simp [flat_len FormR.cells 2 FormR.len])
 have hb0 : Below w1.heap.size w1 (w1.alloc (.cells ((List.replicate n formZ).flatMap FormR.cells).toArray 77)) := bel
 generalize (w1.alloc (.cells ((List.replicate n formZ).flatMap FormR.cells).toArray 77)) = V0 at *
 obtain ⟨g, hg⟩ : ∃ g, g = w1.heap.size := ⟨_, rfl⟩
 rw [← hg] at hown0 ⊢
 have hg1 : w1.heap.size ≤ g := Nat.le_of_eq hg.symm
 have HG := hI hg
 clear hg
 have HST0 : Hid (EndsSto g g n (List.replicate n formZ) V0) := ⟨by rw [List.toList_toArray] at hown0; exact hown0, fun f hf => by
  obtain rfl := List.eq_of_mem_replicate hf
  exact ⟨Cells.nil _ _, (fun ad h => by cases h), fun ad h => by cases h⟩⟩
 have HV0 := hI hb0
 clear hown0 hb0
 have HEL : Hid ((endsOf l).length = n) := by show _ = _; rw [ends_len, HX.out.len]
 go_loopw [18] (fun vi wr => ∃ (k : Nat) (fs : List FormR), vi = .int .i64 k ∧ k ≤ n ∧ Hid (EndsSto g g n fs wr) ∧ Hid (fs.map FormR.data = (endsOf l).take k ++ List.replicate (n - k) (false, [])) ∧ Below w1.heap.size w1 wr) (fun vi _ => n - (intOf vi).toNat)
 case atStart => exact ⟨0, List.replicate n formZ, rfl, Nat.zero_le _, HST0.out, by simp [FormR.data, formZ, Part.word, Hid], HV0.out⟩
 case round =>
  obtain ⟨k, fs, rfl, hk, hst, hdat, hB⟩ := hrel
  have hBs := hB.size
  have hBB := HB1.out.trans (hB.mono HB1.out.size)
  by_cases hlt : k < n
  ·have hk1 : (k : Int) < (n : Int) := by omega
   obtain ⟨b, off, h, A1, n1, c1, ws, rfl, hb, hc0, hc1, hlk, hws⟩ := (HX.out.below hBB rr).at_ hlt
   have hm1 := hws.max
   have hn1c : n1 ≤ c1 := hws.2.1
   have HW := hI hws; clear hws
   have HE := hI (ends_at hlk)
   have hfl : fs.length = n := by have := congrArg List.length hdat.out; rw [List.length_map] at this; rw [this, List.length_append, List.length_take, List.length_replicate, HEL.out]; omega
   have hb1 : Below wr.heap.size wr (wr.alloc (.cells #[.bool h, .slice A1 n1 c1] 77)) := bel
   cases h with
   | false =>
    have HN : Hid (fs.map FormR.data = (endsOf l).take (k + 1) ++ List.replicate (n - (k + 1)) (false, [])) := by show _ = _; rw [hdat.out]; exact same_part hlt HE.out
    have HST := hI (hst.out.below hb1)
    have hB1 := hB.trans (hb1.mono hBs)
    clear hst hb1 hlk
    go_wp2
    go_roundw
    case rel => exact ⟨k + 1, fs, by go_num, by omega, HST.out, HN.out, hB1⟩
    case measure => simp [intOf]; omega
   | true =>
    have hmem := List.mem_of_getElem? hlk
    obtain ⟨m, f0, hsk⟩ : ∃ m f, stemK l = some (m, f) := by
     cases hs : stemK l with
     | none => exact absurd ((stemGo_none l none hs).2 _ hmem) (by simp)
     | some s => exact ⟨s.1, s.2, rfl⟩
    have hzm : z = (m : Int) := by rw [HZ.out]; unfold stemN; rw [hsk]
    have hmw : m ≤ ws.length := stemK_short hsk hmem rfl
    have h96 := HOK.out _ hmem
    have hwl := HW.out.len
    have h96' : ws.length ≤ 4096 := h96
    rw [show (stemN l).toNat = m by rw [← HZ.out, hzm]; rfl] at HE
    subst hzm
    clear hsk hlk hmem
    have hm0 : (0 : Int) ≤ (m : Int) := by omega
    have hmn : (m : Int) ≤ (n1 : Int) := by omega
    have hmc : m ≤ c1 := by omega
    have HW1 := hI (HW.out.below hb1 rr)
    have HST := hI (hst.out.below hb1)
    have hB1 := hB.trans (hb1.mono hBs)
    clear hst
    by_cases hcm : c1 = m
    ·subst hcm
     go_wp2_with fail
     clear hc0 hc1 hb1
     generalize (wr.alloc (.cells #[.bool true, .slice A1 n1 c1] 77)) = V1 at *
     have HCUT := HW1.out.drop (k := c1) (by omega)
     rw [if_pos rfl, Nat.sub_self, show n1 - c1 = 0 by omega] at HCUT
     refine (cloneOwn_c A1 0 0 (ws.drop c1) V1 HCUT (by omega)).mono ?_
     rintro e w3 ⟨v3, rfl, hown3, hb3⟩
     obtain ⟨A3, c3, rfl⟩ := own_form hown3
     have hw3 : IsWord w3 A3 (0) c3 (ws.drop c1) := Cells.of_own hown3 (by decide)
     have hf3 := own_addr hown3
     have hth3 := ThereP.of_own hown3
     have HST3 := hI (HST.out.below hb3)
     have hB3 := hB1.trans (hb3.mono hB1.size)
     have hgV : g < V1.heap.size := (HST.out.own.lt g rfl).2
     have HN : Hid ((fs.set k ⟨true, (A3, 0, c3, ws.drop c1)⟩).map FormR.data = (endsOf l).take (k + 1) ++ List.replicate (n - (k + 1)) (false, [])) := by
      show _ = _
      rw [List.map_set, hdat.out]
      exact set_part hlt HEL.out HE.out
     have HST4 := hI (HST3.out.set hlt ⟨true, (A3, 0, c3, ws.drop c1)⟩ ⟨hw3, (fun ad had => Nat.lt_of_lt_of_le hgV (hf3 ad had)), hth3⟩)
     have hB4 : Below w1.heap.size w1 (w3.setCells g (k * 2) (FormR.cells ⟨true, (A3, 0, c3, ws.drop c1)⟩)) := below_set hg1 _ _ _ hB3
     clear hw3 hf3 hb3 hth3 hown3
     go_wp2_with (refine store_form_at rfl (.tmp 33) (.tmp 32) rfl HST3.out.own hlt ⟨true, (A3, 0, c3, ws.drop c1)⟩ rfl rfl ?_)
     generalize (w3.setCells g (k * 2) (FormR.cells ⟨true, (A3, 0, c3, ws.drop c1)⟩)) = V4 at *
     go_roundw
     case rel => exact ⟨k + 1, _, by go_num, by omega, HST4.out, HN.out, hB4⟩
     case measure => simp [intOf]; omega
    ·go_wp2_with fail
     clear hc0 hc1 hb1
     generalize (wr.alloc (.cells #[.bool true, .slice A1 n1 c1] 77)) = V1 at *
     have HCUT := HW1.out.drop (k := m) (by omega)
     rw [if_neg hcm] at HCUT
     refine (cloneOwn_c (A1.map (·.add (m * 2))) (n1 - m) (c1 - m) (ws.drop m) V1 HCUT (by omega)).mono ?_
     rintro e w3 ⟨v3, rfl, hown3, hb3⟩
     obtain ⟨A3, c3, rfl⟩ := own_form hown3
     have hw3 : IsWord w3 A3 ((n1 - m)) c3 (ws.drop m) := Cells.of_own hown3 (by decide)
     have hf3 := own_addr hown3
     have hth3 := ThereP.of_own hown3
     have HST3 := hI (HST.out.below hb3)
     have hB3 := hB1.trans (hb3.mono hB1.size)
     have hgV : g < V1.heap.size := (HST.out.own.lt g rfl).2
     have HN : Hid ((fs.set k ⟨true, (A3, (n1 - m), c3, ws.drop m)⟩).map FormR.data = (endsOf l).take (k + 1) ++ List.replicate (n - (k + 1)) (false, [])) := by
      show _ = _
      rw [List.map_set, hdat.out]
      exact set_part hlt HEL.out HE.out
     have HST4 := hI (HST3.out.set hlt ⟨true, (A3, (n1 - m), c3, ws.drop m)⟩ ⟨hw3, (fun ad had => Nat.lt_of_lt_of_le hgV (hf3 ad had)), hth3⟩)
     have hB4 : Below w1.heap.size w1 (w3.setCells g (k * 2) (FormR.cells ⟨true, (A3, (n1 - m), c3, ws.drop m)⟩)) := below_set hg1 _ _ _ hB3
     clear hw3 hf3 hb3 hth3 hown3
     go_wp2_with (refine store_form_at rfl (.tmp 33) (.tmp 32) rfl HST3.out.own hlt ⟨true, (A3, (n1 - m), c3, ws.drop m)⟩ rfl rfl ?_)
     generalize (w3.setCells g (k * 2) (FormR.cells ⟨true, (A3, (n1 - m), c3, ws.drop m)⟩)) = V4 at *
     go_roundw
     case rel => exact ⟨k + 1, _, by go_num, by omega, HST4.out, HN.out, hB4⟩
     case measure => simp [intOf]; omega
  ·have hk1 : ¬ ((k : Int) < (n : Int)) := by omega
   have HD : Hid (fs.map FormR.data = endsOf l) := by
    show _ = _
    rw [hdat.out, show n - k = 0 by omega, List.take_of_length_le (by rw [HEL.out]; omega)]; simp
   go_wp2
   go_ret
   have hsz := HB1.out.size
   refine ⟨some ⟨g, 0, none⟩, n, n, rfl, ⟨fs, HD.out, ?_, fun f hf => ⟨(hst.out.ww f hf).1, (fun ad had => by have := (hst.out.ww f hf).2.1 ad had; omega), (fun ad a had ha => by injection ha with ha; subst ha; exact (hst.out.ww f hf).2.1 ad had), (hst.out.ww f hf).2.2⟩⟩, hBB⟩
   rcases hst.out.own with ⟨q1, q2⟩
   exact ⟨q1, q2.imp id fun ⟨g', cap, cur, e1, e2, e3⟩ => ⟨g', cap, cur, e1, by omega, e3⟩⟩
def RetWEo (w : World) (r : Int × List Snd) (e : Ending) (w' : World) : Prop :=
 ∃ A n c, e = .returned (.tuple #[.slice A n c, .int .i64 r.1]) ∧ w'.ownsRow w.heap.size 24 2 (.slice A n c) n (wcells r.2) ∧ Below w.heap.size w w'
def RetFormsEo (w : World) (r : Int × List Frm) (e : Ending) (w' : World) : Prop := ∃ A n c, e = .returned (.tuple #[.slice A n c, .int .i64 r.1]) ∧ OwnFormso w.heap.size w' A n c r.2 ∧ Below w.heap.size w w'
theorem RetFormsEo.bad {w w' : World} {r : Int × List Frm} {er : Int} (h : r = (er, [])) (hb : Below w.heap.size w w') : RetFormsEo w r (.returned (.tuple #[.slice none 0 0, .int .i64 er])) w' := by
 subst h
 exact ⟨none, 0, 0, rfl, OwnFormso.nil _ _, hb⟩
theorem pStemo_c (A : Option Addr) (n c : Nat) (T : List (List Frm)) (r : Int) (w : World) (hx : IsPar w A n c T) (hr : -9223372036854775808 ≤ r ∧ r ≤ 9223372036854775807) :
  Calls Tryz.prog 47 #[.slice A n c, .int .i64 r] w (RetWEo w (pStemM T r)) := by
 have HX := hI hx; clear hx
 go_enter Tryz.func47, Tryz.ntmps47
 go_wp2_with fail
 refine (pLine_c A n c T r w HX.out hr).mono ?_
 rintro e w1 ⟨⟨h0, rfl⟩ | ⟨h0, A1, n1, c1, rfl, hf⟩, hB1⟩
 ·obtain ⟨er, her⟩ : ∃ er, er = lineE T r := ⟨_, rfl⟩
  rw [← her] at h0 ⊢
  have h1 : (er != 0) = true := by simpa using h0
  have HM : Hid (pStemM T r = (er, [])) := by show _ = _; unfold pStemM; rw [← her, if_pos h0]
  clear h0 her
  go_wp2
  go_ret2
  exact ⟨none, 0, 0, by rw [HM.out]; rfl, by rw [HM.out]; exact World.ownsRow_nil _ _ _ _, hB1⟩
 have HM : Hid (pStemM T r = match stemM (lineR T r) with | none => (5, []) | some w => (0, w)) := by show _ = _; unfold pStemM; rw [if_neg (by simpa using h0)]; cases stemM (lineR T r) <;> rfl
 have HPE : Hid (parE T = 0) := by
  show _ = _
  unfold lineE at h0
  by_cases hp : parE T = 0
  ·exact hp
  ·rw [if_pos hp] at h0; exact absurd h0 hp
 have HRNG : Hid (0 ≤ r ∧ r < (T.length : Int)) := by
  unfold lineE at h0
  rw [if_neg (by simp [HPE.out])] at h0
  by_cases hp : r < 0 ∨ (T.length : Int) ≤ r
  ·rw [if_pos hp] at h0; exact absurd h0 (by decide)
  ·show _ ∧ _; omega
 clear h0
 have HF := hI hf; clear hf
 go_wp2_with fail
 refine (pStemL_c A1 n1 c1 (lineR T r) w1 HF.out).mono ?_
 rintro e w2 ⟨⟨v, rfl, hat⟩, hb2⟩
 have hB2 := hB1.trans (hb2.mono hB1.size)
 clear hb2
 cases hs : stemK (lineR T r) with
 | none =>
  have HM' : Hid (pStemM T r = (5, [])) := by show _ = _; rw [HM.out]; unfold stemM; rw [hs]; rfl
  rw [show stemN (lineR T r) = -1 by unfold stemN; rw [hs]]
  clear hs hat
  go_wp2
  go_ret2
  exact ⟨none, 0, 0, by rw [HM'.out]; rfl, by rw [HM'.out]; exact World.ownsRow_nil _ _ _ _, hB2⟩
 | some s =>
  obtain ⟨m, f⟩ := s
  have HM' : Hid (pStemM T r = (0, f.take m)) := by show _ = _; rw [HM.out]; unfold stemM; rw [hs]; rfl
  rw [show stemN (lineR T r) = (m : Int) by unfold stemN; rw [hs]]
  obtain ⟨hmf, A2, n2, c2, rfl, hwf⟩ := hat.2 m f hs
  have hlf := hwf.len
  have hmx := hwf.max
  have hnc : n2 ≤ c2 := hwf.2.1
  have HWF := hI hwf; clear hwf hat
  have hneg : ¬ ((m : Int) < 0) := by omega
  have hm0 : (0 : Int) ≤ (m : Int) := by omega
  have hmc : (m : Int) ≤ (c2 : Int) := by omega
  have hm32 : m ≤ 32 := by
   have hmem : (lineR T r) ∈ T := by
    unfold lineR
    have h1 := HRNG.out
    rw [List.getD_eq_getElem?_getD, List.getElem?_eq_getElem (by omega)]
    exact List.getElem_mem _
   obtain ⟨x, hx, hx1, hx2⟩ := stemK_first hs
   have h2 := words_all HPE.out hmem hx
   rw [hx2] at h2
   have := wcheck_len h2
   omega
  clear hs
  go_wp2_with fail
  refine (cloneOwn_c A2 m c2 (f.take m) w2 (HWF.out.take (by omega)) (by omega)).mono ?_
  rintro e w3 ⟨v3, rfl, hown3, hb3⟩
  obtain ⟨A3, c3, rfl⟩ := own_form hown3
  have HW3 : Hid (w3.ownsRow w.heap.size 24 2 (.slice A3 m c3) m (wcells (f.take m))) := by
   rcases hown3 with ⟨q1, q2⟩
   have hsz := hB2.size
   exact ⟨q1, q2.imp id fun ⟨g', cap, cur, e1, e2, e3⟩ => ⟨g', cap, cur, e1, by omega, e3⟩⟩
  clear hown3
  go_wp2
  go_ret2
  exact ⟨A3, m, c3, by rw [HM'.out]; rfl, by rw [HM'.out]; exact HW3.out, hB2.trans (hb3.mono hB2.size)⟩
theorem pEndingso_c (A : Option Addr) (n c : Nat) (T : List (List Frm)) (r : Int) (w : World) (hx : IsPar w A n c T) (hr : -9223372036854775808 ≤ r ∧ r ≤ 9223372036854775807) :
  Calls Tryz.prog 48 #[.slice A n c, .int .i64 r] w (RetFormsEo w (pEndsM T r)) := by
 have HX := hI hx; clear hx
 go_enter Tryz.func48, Tryz.ntmps48
 go_wp2_with fail
 refine (pStem_c A n c T r w HX.out hr).mono ?_
 rintro e w1 ⟨A1, n1, c1, rfl, _, hB1, _⟩
 obtain ⟨er, her⟩ : ∃ er, er = (pStemM T r).1 := ⟨_, rfl⟩
 rw [← her]
 by_cases h0 : er = 0
 case neg =>
  have h1 : (er != 0) = true := by simpa using h0
  have HM : Hid (pEndsM T r = (er, [])) := by show _ = _; unfold pEndsM; rw [← her, if_pos h0]
  clear h0 her
  go_wp2
  go_ret2
  exact RetFormsEo.bad HM.out hB1
 have h1 : (er != 0) = false := by simpa using h0
 have HM : Hid (pEndsM T r = (0, endsOf (lineR T r))) := by show _ = _; unfold pEndsM; rw [← her, if_neg (by simpa using h0)]
 obtain ⟨h2, _⟩ := stem_good (her.symm.trans h0)
 obtain ⟨h3, h4, h5, h6⟩ := line_good h2
 clear h0 her h2
 have hl := HX.out.len
 obtain ⟨k, rfl⟩ : ∃ k : Nat, r = k := ⟨r.toNat, by omega⟩
 have hk : k < n := by omega
 have hk1 : (k : Int) < (n : Int) := by omega
 obtain ⟨b, off, A2, n2, c2, l, rfl, hbl, hc1, hlk, hfl⟩ := (HX.out.below hB1 rr).at_ hk
 rw [Int.toNat_natCast, hlk] at h6
 obtain rfl : l = lineR T (k : Int) := by simpa using h6
 have hmem := List.mem_of_getElem? hlk
 have h16 := (shape_len (par_shape h3)).2.1 _ hmem
 rw [hfl.len] at h16
 have HOK : Hid (∀ x ∈ lineR T (k : Int), x.2.length ≤ 4096) := fun x hx => by have := wcheck_len (words_all h3 hmem hx); omega
 have HF := hI hfl
 clear hfl hlk hmem h6 h3 h5 hl
 go_wp2_with fail
 refine (pEndso_c A2 n2 c2 (lineR T (k : Int)) w1 HF.out (by omega) HOK.out).mono ?_
 rintro e w2 ⟨A3, n3, c3, rfl, ho, hb2⟩
 have HO : Hid (OwnFormso w.heap.size w2 A3 n3 c3 (endsOf (lineR T (k : Int)))) := by
  obtain ⟨fs, q1, ⟨q2, q3⟩, q4⟩ := ho
  have hsz := hB1.size
  exact ⟨fs, q1, ⟨q2, q3.imp id fun ⟨g', cap, cur, e1, e2, e3⟩ => ⟨g', cap, cur, e1, by omega, e3⟩⟩, fun f hf => ⟨(q4 f hf).1, (fun ad had => Nat.le_trans hsz ((q4 f hf).2.1 ad had)), (q4 f hf).2.2⟩⟩
 clear ho
 go_wp2
 go_ret2
 exact ⟨A3, n3, c3, by rw [HM.out]; rfl, by rw [HM.out]; exact HO.out, hB1.trans (hb2.mono hB1.size)⟩
end Go.Proofs.YtcpcojgmmpnkoaaGreatDoor

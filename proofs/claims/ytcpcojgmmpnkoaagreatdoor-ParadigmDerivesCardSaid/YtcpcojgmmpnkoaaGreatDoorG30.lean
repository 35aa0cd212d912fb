/-
  ablautref10: Derive.
-/
import Derived.Test.YtcpcojgmmpnkoaaGreatDoorG28
set_option linter.all false
set_option maxRecDepth 100000
set_option maxHeartbeats 4000000
namespace Go.Proofs.YtcpcojgmmpnkoaaGreatDoor
open Go.RowKit Go.Shelf
theorem chk_both {ls : List LawD} {ws : List Snd} (h : chkM ls [ws] = 0) : lawsE ls = 0 ∧ wcheck ws = 0 := by
 rw [chk_one] at h
 by_cases h1 : lawsE ls = 0
 ·rw [if_neg (by simpa using h1)] at h; exact ⟨h1, h⟩
 ·rw [if_pos h1] at h; exact absurd h h1
theorem formsE_of {ls : List LawD} {ws : List Snd} (h : chkM ls [ws] = 0) : formsE ls ws = if (formsM ls ws).1 ≠ 0 then ((formsM ls ws).1, []) else (0, (formsM ls ws).2) := by
 unfold formsE; rw [if_neg (by simpa using h)]
theorem deriveM_of {ls : List LawD} {ws : List Snd} (h : chkM ls [ws] = 0) : deriveM ls ws = if (formsM ls ws).1 ≠ 0 then (11, []) else (0, ((formsM ls ws).2.getLast?).getD []) := by
 unfold deriveM; rw [if_neg (by simpa using h)]
theorem formsE_no {ls : List LawD} {ws : List Snd} (h : ¬ chkM ls [ws] = 0) : formsE ls ws = (chkM ls [ws], []) := by
 unfold formsE; rw [if_pos h]
theorem deriveM_no {ls : List LawD} {ws : List Snd} (h : ¬ chkM ls [ws] = 0) : deriveM ls ws = (chkM ls [ws], []) := by
 unfold deriveM; rw [if_pos h]
theorem deriveM_bad {ls : List LawD} {ws : List Snd} (h : (formsE ls ws).1 ≠ 0) : deriveM ls ws = ((formsE ls ws).1, []) := by
 by_cases h0 : chkM ls [ws] = 0
 ·rw [formsE_of h0] at h ⊢
  rw [deriveM_of h0]
  by_cases h1 : (formsM ls ws).1 = 0
  ·rw [if_neg (by simpa using h1)] at h; exact absurd rfl h
  ·rw [if_pos h1, if_pos h1]
   obtain ⟨h2, h3⟩ := chk_both h0
   rcases (formsM_ok ls ws (lawsE_all h2).2 h3).1 with h4 | h4
   ·exact absurd h4 h1
   ·rw [h4]
 ·rw [formsE_no h0, deriveM_no h0]
theorem deriveM_good {ls : List LawD} {ws : List Snd} (h : (formsE ls ws).1 = 0) : deriveM ls ws = (0, ((formsE ls ws).2.getLast?).getD []) := by
 by_cases h0 : chkM ls [ws] = 0
 ·rw [formsE_of h0] at h ⊢
  rw [deriveM_of h0]
  by_cases h1 : (formsM ls ws).1 = 0
  ·rw [if_neg (by simpa using h1), if_neg (by simpa using h1)]
  ·rw [if_pos h1] at h; exact absurd h h1
 ·rw [formsE_no h0] at h; exact absurd h h0
theorem formsE_last {ls : List LawD} {ws : List Snd} (h : (formsE ls ws).1 = 0) : ∃ m, (formsE ls ws).2.length = m + 1 := by
 by_cases h0 : chkM ls [ws] = 0
 ·rw [formsE_of h0] at h ⊢
  by_cases h1 : (formsM ls ws).1 = 0
  ·rw [if_neg (by simpa using h1)]
   obtain ⟨r, hr⟩ := formsM_pos ls ws
   rw [hr]; exact ⟨r.length, rfl⟩
  ·rw [if_pos h1] at h; exact absurd h h1
 ·rw [formsE_no h0] at h; exact absurd h h0
theorem parts_at {w : World} {A : Option Addr} {n c : Nat} {ps : List Part} (hc : Cells w A n c 1 (ps.map Part.val)) {k : Nat} (hk : k < n) :
  ∃ b off p, A = some ⟨b, off, none⟩ ∧ b < w.heap.size ∧ ps[k]? = some p ∧ w.cell? ⟨b, off + k, none⟩ = some p.val := by
 obtain ⟨b, off, v, hA, hb, hv, hcc⟩ := hc.at1 hk
 rw [List.getElem?_map] at hv
 cases hp : ps[k]? with
 | none => rw [hp] at hv; cases hv
 | some p => rw [hp] at hv; obtain rfl : p.val = v := by simpa using hv
             exact ⟨b, off, p, hA, hb, rfl, hcc⟩
theorem r10DeriveF_c (A : Option Addr) (n c : Nat) (xs : List LawR) (Aw : Option Addr) (nw cw : Nat) (ws : List Snd) (w : World) (hx : IsLaws w A n c xs) (hw : IsWord w Aw nw cw ws) (hu : LawsU xs) (hwu : WordU ws) :
  Calls Tryz.prog 134 #[.slice A n c, .slice Aw nw cw] w (RetWE w (deriveM (lawsD xs) ws)) := by
 have HX := hI hx; clear hx
 have HW := hI hw; clear hw
 have HU := hI hu; clear hu
 have HWU := hI hwu; clear hwu
 go_enter Tryz.func134, Tryz.ntmps134
 go_wp2_with fail
 refine (r10FormsF_c A n c xs Aw nw cw ws w HX.out HW.out HU.out HWU.out).mono ?_
 rintro e w1 ⟨A1, n1, c1, ps, rfl, hpw, hcs, hps, hfr, hB1⟩
 have hn1 : ps.length = n1 := by have := hcs.1; simpa using this
 have hmx := hcs.2.1
 have hmx' := hcs.2.2.1
 unfold maxLen at hmx'
 have HCS := hI hcs; clear hcs
 have HPS := hI hps; clear hps
 have HFR := hI hfr; clear hfr
 obtain ⟨fa, hfa⟩ : ∃ fa, fa = formsE (lawsD xs) ws := ⟨_, rfl⟩
 rw [← hfa] at hpw ⊢
 by_cases h0 : fa.1 = 0
 case neg =>
  have h1 : (fa.1 != 0) = true := by simpa using h0
  have HM : Hid (deriveM (lawsD xs) ws = (fa.1, [])) := by show deriveM _ _ = _; rw [hfa]; exact deriveM_bad (by rw [← hfa]; exact h0)
  clear h0 hfa hpw
  go_wp2
  go_ret2
  exact ⟨none, 0, 0, by rw [HM.out]; rfl, by rw [HM.out]; exact Cells.nil _ _, hB1, fun ad h => by cases h⟩
 have h1 : (fa.1 != 0) = false := by simpa using h0
 obtain ⟨m, hm⟩ := formsE_last (by rw [← hfa]; exact h0)
 have HM : Hid (deriveM (lawsD xs) ws = (0, (fa.2.getLast?).getD [])) := by show deriveM _ _ = _; rw [hfa]; exact deriveM_good (by rw [← hfa]; exact h0)
 rw [← hfa] at hm
 obtain rfl : n1 = m + 1 := by have h2 := congrArg List.length hpw; rw [List.length_map] at h2; omega
 obtain ⟨b, off, ⟨A', n', c', x⟩, rfl, hbl, hpm, hcell⟩ := parts_at HCS.out (k := m) (by omega)
 have hmi : (m : Int) < (m : Int) + 1 := by omega
 have hmn : ((m : Int)).toNat = m := by omega
 have hmem := List.mem_of_getElem? hpm
 have hxm : fa.2[m]? = some x := by rw [← hpw, List.getElem?_map, hpm]; rfl
 have HM' : Hid (deriveM (lawsD xs) ws = (0, x)) := by show deriveM _ _ = _; rw [HM.out, getLast_get (m := m) hm, hxm]; rfl
 have HWX : Hid (IsWord w1 A' n' c' x) := HPS.out _ hmem
 have HFX : Hid (∀ ad, A' = some ad → w.heap.size ≤ ad.block) := HFR.out _ hmem
 clear hpm hmem hxm h0 hm hn1 hfa hpw
 go_wp2
 go_ret2
 exact ⟨A', n', c', by rw [HM'.out]; rfl, by rw [HM'.out]; exact HWX.out, hB1, HFX.out⟩
end Go.Proofs.YtcpcojgmmpnkoaaGreatDoor

/-
  interplay: check, Matters.
  interplay: Swaps, Blocks.
-/
import Derived.WalkMore
import Derived.Test.YtcpcojgmmpnkoaaGreatDoorG43
import Derived.Test.YtcpcojgmmpnkoaaGreatDoorG40
import Derived.Test.YtcpcojgmmpnkoaaGreatDoorG42
import Derived.Test.YtcpcojgmmpnkoaaGreatDoorG15
set_option linter.unusedVariables false
set_option linter.unusedSimpArgs false
set_option maxRecDepth 100000
set_option maxHeartbeats 4000000
namespace Go.Proofs.YtcpcojgmmpnkoaaGreatDoor
open Go.RowKit Go.Shelf
theorem check12_c (A : Option Addr) (n c : Nat) (xs : List LawR) (A' : Option Addr) (n' c' : Nat) (wss : List (List Snd)) (w : World) (hx : IsLaws w A n c xs) (hw : IsWords w A' n' c' wss) :
  Calls Tryz.prog 101 #[.slice A n c, .slice A' n' c'] w fun e w' => e = .returned (.int .i64 (chkM (lawsD xs) wss)) ∧ Below w.heap.size w w' := by
 have hm := hw.max
 have HL : Hid (wss.length = n') := hw.len
 have HX := hI hx; clear hx
 have HW := hI hw; clear hw
 obtain ⟨ea, hea⟩ : ∃ ea, ea = lawsE (lawsD xs) := ⟨_, rfl⟩
 have HEA := hI hea
 go_enter Tryz.func101, Tryz.ntmps101
 go_wp2_with fail
 refine (dCheck_c A n c xs w HX.out).mono ?_
 rintro e w1 ⟨rfl, hB1⟩
 rw [← hea]
 clear hea
 by_cases h0 : ea = 0
 case neg =>
  have h1 : (ea != 0) = true := by simpa using h0
  have HM : Hid (chkM (lawsD xs) wss = ea) := by show chkM _ _ = _; unfold chkM; rw [← HEA.out, if_pos h0]
  clear h0
  go_wp2
  go_ret
  exact ⟨by rw [HM.out]; rfl, hB1⟩
 have h1 : (ea != 0) = false := by simpa using h0
 have hM : chkM (lawsD xs) wss = if 256 < wss.length then 12 else firstE wss := by unfold chkM; rw [← HEA.out, if_neg (by simpa using h0)]
 clear h0
 by_cases h256 : 256 < n'
 ·have HM : Hid (chkM (lawsD xs) wss = 12) := by show _ = _; rw [hM, if_pos (by rw [HL.out]; exact h256)]
  clear hM
  go_wp2
  go_ret
  exact ⟨by rw [HM.out]; rfl, hB1⟩
 ·have HR : Hid (chkM (lawsD xs) wss = firstE wss) := by show _ = _; rw [hM, if_neg (by rw [HL.out]; exact h256)]
  clear hM
  go_wp2_with fail
  go_loopw [19] (fun i wr => ∃ k : Nat, k ≤ n' ∧ i = .int .i64 k ∧ Hid ((wss.take k).all (fun x => wcheck x == 0) = true) ∧ Below w.heap.size w wr) (fun i _ => n' - (intOf i).toNat)
  case atStart => exact ⟨0, Nat.zero_le _, rfl, rfl, hB1⟩
  case round =>
   obtain ⟨k, hk, rfl, hall, hB⟩ := hrel
   have hBs := hB.size
   by_cases hlt : k < n'
   ·obtain ⟨b, off, A2, n2, c2, x, rfl, hbl, hcell, hxk, hwx⟩ := (HW.out.below hB rr).at_ hlt
    have hlt' : (k : Int) < (n' : Int) := by omega
    have HXK := hI hxk
    have HS := hI (take_snoc' wss k x hxk)
    have HWX := hI hwx; clear hwx hxk
    go_wp2_with fail
    refine (wCheck_c A2 n2 c2 x wr HWX.out).mono ?_
    rintro e w5 ⟨rfl, hb5⟩
    have hB5 := hB.trans (hb5.mono hBs)
    clear hb5 hcell
    by_cases hv : wcheck x = 0
    ·have hv' : (wcheck x != 0) = false := by simpa using hv
     have HG : Hid ((wss.take (k + 1)).all (fun x => wcheck x == 0) = true) := by show _ = _; rw [HS.out, List.all_append, hall.out]; simp [hv]
     clear hv
     go_wp2
     go_roundw
     case rel => exact ⟨k + 1, by omega, by go_num, HG, hB5⟩
     case measure => simp [intOf]; omega
    ·have hv' : (wcheck x != 0) = true := by simpa using hv
     have HF : Hid (chkM (lawsD xs) wss = wcheck x) := by show _ = _; rw [HR.out]; exact firstE_snoc HXK.out hall.out hv
     clear hv
     go_wp2
     go_ret
     exact ⟨by rw [HF.out]; rfl, hB5⟩
   ·obtain rfl : k = n' := by omega
    have HF : Hid (chkM (lawsD xs) wss = 0) := by
     show _ = _
     have := hall.out
     rw [List.take_of_length_le (by rw [HL.out]; exact rr)] at this
     rw [HR.out]; exact firstE_none this
    go_wp2
    go_ret
    exact ⟨by rw [HF.out]; rfl, hB⟩
theorem matters_c (A : Option Addr) (n c : Nat) (xs : List LawR) (i : Int) (A' : Option Addr) (n' c' : Nat) (wss : List (List Snd)) (w : World) (hx : IsLaws w A n c xs) (hw : IsWords w A' n' c' wss) (hT : TabOK w) :
  Calls Tryz.prog 98 #[.slice A n c, .int .i64 i, .slice A' n' c'] w fun e w' =>
   e = .returned (.tuple #[.int .i64 (matM (lawsD xs) i wss).1, .bool (matM (lawsD xs) i wss).2.1, .int .i64 (matM (lawsD xs) i wss).2.2]) ∧ Below w.heap.size w w' := by
 have hmx := hx.max
 have hmw := hw.max
 have HX := hI hx; clear hx
 have HW := hI hw; clear hw
 have HT := hI hT; clear hT
 have HLN : Hid ((lawsD xs).length = n) := by show (lawsD xs).length = n; rw [lawsD, List.length_map]; exact HX.out.len
 obtain ⟨r, hr⟩ : ∃ r, r = matM (lawsD xs) i wss := ⟨_, rfl⟩
 rw [← hr]
 have HR := hI hr; clear hr
 obtain ⟨er, her⟩ : ∃ er, er = chkM (lawsD xs) wss := ⟨_, rfl⟩
 have HER := hI her
 go_enter Tryz.func98, Tryz.ntmps98
 go_wp2_with fail
 refine (check12_c A n c xs A' n' c' wss w HX.out HW.out).mono ?_
 rintro e w1 ⟨rfl, hB1⟩
 rw [← her]
 clear her
 have HB1 := hI hB1; clear hB1
 by_cases h0 : er = 0
 case neg =>
  have h1 : (er != 0) = true := by simpa using h0
  have HM : Hid (r = (0, false, er)) := by show r = _; rw [HR.out]; unfold matM; rw [← HER.out, if_pos h0]
  clear h0
  go_wp2
  go_ret3
  exact ⟨by rw [HM.out]; rfl, HB1.out⟩
 have h1 : (er != 0) = false := by simpa using h0
 have hc0 : chkM (lawsD xs) wss = 0 := by rw [← HER.out]; exact h0
 have h256 : n' ≤ 256 := by have h := (chk_all hc0).1; rw [HW.out.len] at h; exact h
 have hn64 : n ≤ 64 := by have h := lawsE_len (chk_laws hc0); rw [HLN.out] at h; exact h
 have HC0 := hI hc0; clear hc0 h0
 by_cases hi : i < 0 ∨ (n : Int) - 1 ≤ i
 ·have HM : Hid (r = (0, false, 3)) := by show r = _; rw [HR.out]; unfold matM; rw [if_neg (by rw [HC0.out]; decide), if_pos (by rw [HLN.out]; exact hi)]
  by_cases hi0 : i < 0
  ·clear hi
   go_wp2
   go_ret3
   exact ⟨by rw [HM.out]; rfl, HB1.out⟩
  ·have hi1 : (n : Int) - 1 ≤ i := by omega
   have hw1 : IntKind.i64.wrap ((n : Int) - 1) = (n : Int) - 1 := IntWalk.i64_in _ (by omega)
   clear hi
   go_wp2
   go_ret3
   exact ⟨by rw [HM.out]; rfl, HB1.out⟩
 obtain ⟨k, rfl⟩ : ∃ k : Nat, i = k := ⟨i.toNat, by omega⟩
 have hk : k + 1 < n := by omega
 have hk1 : ¬ ((n : Int) - 1 ≤ (k : Int)) := by omega
 have hk0 : ¬ ((k : Int) < 0) := by omega
 have hw1 : IntKind.i64.wrap ((n : Int) - 1) = (n : Int) - 1 := IntWalk.i64_in _ (by omega)
 have HM0 : Hid (r = if (outsM (lawsD xs) wss).1 ≠ 0 then (0, false, (outsM (lawsD xs) wss).1)
   else if (outsM (exch (lawsD xs) k) wss).1 ≠ 0 then (0, false, (outsM (exch (lawsD xs) k) wss).1)
   else diffR (diffN (outsM (lawsD xs) wss).2 (outsM (exch (lawsD xs) k) wss).2)) := by
  show r = _
  rw [HR.out]; unfold matM
  rw [if_neg (by rw [HC0.out]; decide), if_neg (by rw [HLN.out]; exact hi), Int.toNat_natCast]
 have HOL : Hid (∀ ls, lawsE ls = 0 → (outsM ls wss).1 = 0 → (outsM ls wss).2.length = n') := by
  show ∀ ls, _
  intro ls hl h
  rcases outs_cases hl (chk_all HC0.out).2 with ⟨q, _⟩ | ⟨q, _⟩
  ·rw [q] at h; cases h
  ·rw [q]; show (endsL ls wss).length = n'; unfold endsL; rw [List.length_map]; exact HW.out.len
 clear hi
 go_wp2_with fail
 refine (outcomes_c A n c xs A' n' c' wss w1 (HX.out.below HB1.out rr) (HW.out.below HB1.out rr) (HT.out.below HB1.out rr) (by omega)).mono ?_
 rintro e w2 ⟨A2, n2, c2, rfl, hw2, hB2⟩
 have HB2 := hI (HB1.out.trans (hB2.mono HB1.out.size)); clear hB2 HB1 h1 hw1 hk1 hk0
 have HW2 := hI hw2; clear hw2
 obtain ⟨a, ha⟩ : ∃ a, a = outsM (lawsD xs) wss := ⟨_, rfl⟩
 rw [← ha] at HW2 ⊢
 have HA := hI ha; clear ha
 by_cases h4 : a.1 = 0
 case neg =>
  have h5 : (a.1 != 0) = true := by simpa using h4
  have HM : Hid (r = (0, false, a.1)) := by show r = _; rw [HM0.out, ← HA.out, if_pos h4]
  clear h4
  go_wp2
  go_ret3
  exact ⟨by rw [HM.out]; rfl, HB2.out⟩
 have h5 : (a.1 != 0) = false := by simpa using h4
 have HA0 := hI h4; clear h4
 go_wp2_with fail
 refine (exchanged_c A n c xs k w2 (HX.out.below HB2.out rr) hk (by omega)).mono ?_
 rintro e w3 ⟨A3, n3, c3, rfl, hl3, hB3, _⟩
 have HB3 := hI (HB2.out.trans (hB3.mono HB2.out.size))
 have HW2' := hI (HW2.out.below hB3 rr); clear hB3 HW2 HB2
 have HL3 := hI hl3; clear hl3 h5
 go_wp2_with fail
 refine (outcomes_c A3 n3 c3 (exch xs k) A' n' c' wss w3 HL3.out (HW.out.below HB3.out rr) (HT.out.below HB3.out rr) (by omega)).mono ?_
 rw [show lawsD (exch xs k) = exch (lawsD xs) k from (exch_map LawR.l xs k).symm]
 rintro e w4 ⟨A4, n4, c4, rfl, hw4, hB4⟩
 have HB4 := hI (HB3.out.trans (hB4.mono HB3.out.size))
 have HW2 := hI (HW2'.out.below hB4 rr); clear hB4 HW2' HB3 HL3
 have HW4 := hI hw4; clear hw4
 obtain ⟨b, hb⟩ : ∃ b, b = outsM (exch (lawsD xs) k) wss := ⟨_, rfl⟩
 rw [← hb] at HW4 ⊢
 have HBB := hI hb; clear hb
 by_cases h4 : b.1 = 0
 case neg =>
  have h5 : (b.1 != 0) = true := by simpa using h4
  have HM : Hid (r = (0, false, b.1)) := by show r = _; rw [HM0.out, ← HA.out, if_neg (by rw [HA0.out]; decide), ← HBB.out, if_pos h4]
  clear h4
  go_wp2
  go_ret3
  exact ⟨by rw [HM.out]; rfl, HB4.out⟩
 have h5 : (b.1 != 0) = false := by simpa using h4
 have HL2 : Hid (n2 = n') := by show n2 = n';  rw [← HW2.out.len, HA.out]; exact HOL.out _ (chk_laws HC0.out) (by rw [← HA.out]; exact HA0.out)
 have HL4 : Hid (n4 = n') := by show n4 = n';  rw [← HW4.out.len, HBB.out]; exact HOL.out _ (exch_E (chk_laws HC0.out)) (by rw [← HBB.out]; exact h4)
 have HM1 : Hid (r = diffR (diffN a.2 b.2)) := by
  show r = _; rw [HM0.out, ← HA.out, if_neg (by rw [HA0.out]; decide), ← HBB.out, if_neg (by simpa using h4)]
 clear h4
 go_wp2_with fail
 refine (differ_c A2 A4 n2 n4 c2 c4 a.2 b.2 w4 HW2.out HW4.out (by rw [HL2.out, HL4.out]; exact rr)).mono ?_
 rintro e w5 ⟨rfl, hB5⟩
 have HB5 := hI (HB4.out.trans (hB5.mono HB4.out.size)); clear hB5 HB4 h5
 cases hd : diffN a.2 b.2 with
 | some k2 =>
  have HD : Hid (diffI a.2 b.2 = (k2 : Int)) := by show _ = _; unfold diffI; rw [hd]
  have HM : Hid (r = ((k2 : Int), true, 0)) := by show _ = _; rw [HM1.out, hd]; rfl
  clear hd
  rw [HD.out]
  have hk2 : (0 : Int) ≤ (k2 : Int) := by omega
  go_wp2
  go_ret3
  exact ⟨by rw [HM.out]; rfl, HB5.out⟩
 | none =>
  have HD : Hid (diffI a.2 b.2 = -1) := by show _ = _; unfold diffI; rw [hd]
  have HM : Hid (r = (0, false, 0)) := by show _ = _; rw [HM1.out, hd]; rfl
  clear hd
  rw [HD.out]
  go_wp2
  go_ret3
  exact ⟨by rw [HM.out]; rfl, HB5.out⟩
def RetPl (w : World) (r : Int × List Nat) (e : Ending) (w' : World) : Prop :=
 ∃ A n c, e = .returned (.tuple #[.slice A n c, .int .i64 r.1]) ∧ IsInts w' A n c (r.2.map fun (k : Nat) => (k : Int)) ∧ Below w.heap.size w w'
theorem RetPl.of_own {w w' : World} {r : Int × List Nat} {A : Option Addr} {n c : Nat} {l : List Nat} (h : w'.ownsRow w.heap.size 3 1 (.slice A n c) n (ints l)) (hr : r = (0, l)) (hb : Below w.heap.size w w') :
  RetPl w r (.returned (.tuple #[.slice A n c, .int .i64 0])) w' := by
 subst hr
 refine ⟨A, n, c, rfl, ?_, hb⟩
 have := Cells.of_own h (by decide)
 show Cells _ _ _ _ _ (List.map _ _)
 rw [List.map_map]
 exact this
theorem RetPl.bad {w w' : World} {r : Int × List Nat} {e : Int} (hr : r = (e, [])) (hb : Below w.heap.size w w') : RetPl w r (.returned (.tuple #[.slice none 0 0, .int .i64 e])) w' := by
 subst hr
 exact ⟨none, 0, 0, rfl, Cells.nil _ _, hb⟩
theorem place_bad {ls : List LawD} {wss : List (List Snd)} {i p : Nat} (h : (outsM (moved ls i p) wss).1 ≠ 0) : placeGo ls wss i (p + 1) = ((outsM (moved ls i p) wss).1, 0) := by rw [placeGo, if_pos h]
theorem place_diff {ls : List LawD} {wss : List (List Snd)} {i p j : Nat} (h : (outsM (moved ls i p) wss).1 = 0) (hd : diffN (outsM ls wss).2 (outsM (moved ls i p) wss).2 = some j) : placeGo ls wss i (p + 1) = (0, p + 1) := by
 rw [placeGo, if_neg (by simpa using h), if_pos (by rw [hd]; simp)]
theorem place_next {ls : List LawD} {wss : List (List Snd)} {i p : Nat} (h : (outsM (moved ls i p) wss).1 = 0) (hd : diffN (outsM ls wss).2 (outsM (moved ls i p) wss).2 = none) : placeGo ls wss i (p + 1) = placeGo ls wss i p := by
 conv => lhs; rw [placeGo]
 rw [if_neg (by simpa using h), if_neg (by rw [hd]; simp)]
theorem bgo_bad {ls : List LawD} {wss : List (List Snd)} {n i : Nat} {dn : List Nat} {e : Int} {p : Nat} (hi : i < n) (h : placeGo ls wss i i = (e, p)) (he : e ≠ 0) : blocksGo ls wss (n - i) i dn = (e, []) := by
 rw [show n - i = (n - i - 1) + 1 by omega, blocksGo, h, if_pos he]
theorem bgo_next {ls : List LawD} {wss : List (List Snd)} {n i : Nat} {dn : List Nat} {p : Nat} (hi : i < n) (h : placeGo ls wss i i = (0, p)) : blocksGo ls wss (n - i) i dn = blocksGo ls wss (n - (i + 1)) (i + 1) (dn ++ [p]) := by
 rw [show n - i = (n - i - 1) + 1 by omega, blocksGo, h, if_neg (by simp), show n - i - 1 = n - (i + 1) by omega]
theorem blocks_c (A : Option Addr) (n c : Nat) (xs : List LawR) (A' : Option Addr) (n' c' : Nat) (wss : List (List Snd)) (w : World) (hx : IsLaws w A n c xs) (hw : IsWords w A' n' c' wss) (hT : TabOK w) :
  Calls Tryz.prog 99 #[.slice A n c, .slice A' n' c'] w (RetPl w (blocksM (lawsD xs) wss)) := by
 have hmx := hx.max
 have hmw := hw.max
 have HX := hI hx; clear hx
 have HW := hI hw; clear hw
 have HT := hI hT; clear hT
 have HLN : Hid ((lawsD xs).length = n) := by show (lawsD xs).length = n; rw [lawsD, List.length_map]; exact HX.out.len
 have HXL : Hid (xs.length = n) := HX.out.len
 obtain ⟨er, her⟩ : ∃ er, er = chkM (lawsD xs) wss := ⟨_, rfl⟩
 have HER := hI her
 go_enter Tryz.func99, Tryz.ntmps99
 go_wp2_with fail
 refine wp_scope_straight ?_
 go_wp2_with fail
 refine (check12_c A n c xs A' n' c' wss w HX.out HW.out).mono ?_
 rintro e w1 ⟨rfl, hB1⟩
 rw [← her]
 clear her
 have HB1 := hI hB1; clear hB1
 by_cases h0 : er = 0
 case neg =>
  have h1 : (er != 0) = true := by simpa using h0
  have HM : Hid (blocksM (lawsD xs) wss = (er, [])) := by show _ = _; unfold blocksM; rw [← HER.out, if_pos h0]
  clear h0
  go_wp2
  go_ret2
  exact RetPl.bad HM.out HB1.out
 have h1 : (er != 0) = false := by simpa using h0
 have hc0 : chkM (lawsD xs) wss = 0 := by rw [← HER.out]; exact h0
 have h256 : n' ≤ 256 := by have h := (chk_all hc0).1; rw [HW.out.len] at h; exact h
 have hn64 : n ≤ 64 := by have h := lawsE_len (chk_laws hc0); rw [HLN.out] at h; exact h
 have HC0 := hI hc0; clear hc0 h0
 have HOL : Hid (∀ ls, lawsE ls = 0 → (outsM ls wss).1 = 0 → (outsM ls wss).2.length = n') := by
  show ∀ ls, _
  intro ls hl h
  rcases outs_cases hl (chk_all HC0.out).2 with ⟨q, _⟩ | ⟨q, _⟩
  ·rw [q] at h; cases h
  ·rw [q]; show (endsL ls wss).length = n'; unfold endsL; rw [List.length_map]; exact HW.out.len
 go_wp2_with fail
 refine (outcomes_c A n c xs A' n' c' wss w1 (HX.out.below HB1.out rr) (HW.out.below HB1.out rr) (HT.out.below HB1.out rr) (by omega)).mono ?_
 rintro e w2 ⟨A2, n2, c2, rfl, hw2, hB2⟩
 have HB2 := hI (HB1.out.trans (hB2.mono HB1.out.size)); clear hB2 HB1 h1
 have HW2 := hI hw2; clear hw2
 obtain ⟨a, ha⟩ : ∃ a, a = outsM (lawsD xs) wss := ⟨_, rfl⟩
 rw [← ha] at HW2 ⊢
 have HA := hI ha; clear ha
 by_cases h4 : a.1 = 0
 case neg =>
  have h5 : (a.1 != 0) = true := by simpa using h4
  have HM : Hid (blocksM (lawsD xs) wss = (a.1, [])) := by show _ = _; unfold blocksM; rw [if_neg (by rw [HC0.out]; decide), ← HA.out, if_pos h4]
  clear h4
  go_wp2
  go_ret2
  exact RetPl.bad HM.out HB2.out
 have h5 : (a.1 != 0) = false := by simpa using h4
 have HA0 := hI h4
 have HM : Hid (blocksM (lawsD xs) wss = blocksGo (lawsD xs) wss n 0 []) := by show _ = _; unfold blocksM; rw [if_neg (by rw [HC0.out]; decide), ← HA.out, if_neg (by simpa using h4), HLN.out]
 have HL2 : Hid (n2 = n') := by show n2 = n';  rw [← HW2.out.len, HA.out]; exact HOL.out _ (chk_laws HC0.out) (by rw [← HA.out]; exact h4)
 clear h4
 have hB2s := HB2.out.size
 go_wp2_with fail
 refine wp_label ?_
 go_wp2_with fail
 go_loopw [9, 32] (fun v i wr => ∃ (k : Nat) (dn : List Nat), i = .int .i64 k ∧ k ≤ n ∧ dn.length = k ∧ Hid (wr.ownsRow w2.heap.size 3 1 v k (ints dn)) ∧ Hid (blocksM (lawsD xs) wss = blocksGo (lawsD xs) wss (n - k) k dn) ∧ Below w2.heap.size w2 wr) (fun _ i _ => n - (intOf i).toNat)
 case atStart => exact ⟨0, [], rfl, Nat.zero_le _, rfl, World.ownsRow_nil _ _ _ _, HM.out, Below.refl _ _⟩
 case round =>
  obtain ⟨k, dn, rfl, hk, hdl, hown, hgo, hB⟩ := hrel
  have hBs := hB.size
  by_cases hlt : k < n
  ·have hk1 : (k : Int) < (n : Int) := by omega
   obtain ⟨wo, hwo⟩ : ∃ wo, wo = wr := ⟨_, rfl⟩
   subst hwo
   obtain ⟨V, hV⟩ : ∃ V, V = u9 := ⟨_, rfl⟩
   subst hV
   have HBO := hI (HB2.out.trans (hB.mono HB2.out.size))
   go_wp2_with fail
   go_loopw [9, 11, 12] (fun v o p wr => ∃ (q : Nat) (Ao : Option Addr) (co : Nat), v = V ∧ o = .slice Ao n co ∧ p = .int .i64 q ∧ q ≤ k ∧ Hid (IsLaws wr Ao n co (moved xs k q)) ∧ Hid (placeGo (lawsD xs) wss k k = placeGo (lawsD xs) wss k q) ∧ Below wo.heap.size wo wr) (fun _ _ p _ => (intOf p).toNat)
   case atStart => exact ⟨k, A, c, rfl, rfl, rfl, rr, (by show IsLaws _ _ _ _ _; rw [moved_self (by rw [HXL.out]; exact hlt)]; exact HX.out.below HBO.out rr), rfl, Below.refl _ _⟩
   case round =>
    obtain ⟨q, Ao, co, hv9, rfl, rfl, hq, hlo, hpl, hBr⟩ := hrel
    subst hv9
    have hBrs := hBr.size
    have hB2r := hB.trans (hBr.mono hBs)
    have HBR := hI (HB2.out.trans (hB2r.mono HB2.out.size))
    have HOWNr : Hid (wr.ownsRow w2.heap.size 3 1 u9 k (ints dn)) := own_heap hown.out fun b e => hBr.block b (hown.out.lt b e).2
    cases q with
    | zero =>
     have HGN : Hid (blocksM (lawsD xs) wss = blocksGo (lawsD xs) wss (n - (k + 1)) (k + 1) (dn ++ [0])) := by show _ = _; rw [hgo.out, bgo_next hlt hpl.out]
     obtain ⟨A8, c8, hv8⟩ := own_form HOWNr.out
     subst hv8
     go_wp2_with (at_builtin; refine append_int rfl (.tmp 62) (.tmp 63) rfl w2.heap.size (.slice A8 k c8) k (ints dn) rfl ?ho ⟨wr.heap.size, 0, none⟩ 1 (.int .i64 0) rfl (cell_one_new _ _ _) rfl ?hl ?hz ?hc)
     case ho => exact (HOWNr.out).alloc _
     case hl => omega
     case hz => have := hB2r.size; first | omega | (simp; omega)
     case hc =>
      intro v' w9 hown9 hg9 _
      have HOWN9 : Hid (w9.ownsRow w2.heap.size 3 1 v' (k + 1) (ints (dn ++ [0]))) := by show World.ownsRow _ _ _ _ _ _ _; simpa [ints] using hown9
      have hB9 : Below w2.heap.size w2 w9 := own_below (hB2r.alloc hB2r.size _) ((HOWNr.out).alloc _) hg9 rr (by have := hB2r.size; simp; omega)
      clear hown9 hg9
      go_wp2
      go_roundw
      case rel => exact ⟨k + 1, dn ++ [0], by go_num, by omega, by simp [hdl], HOWN9, HGN.out, hB9⟩
      case measure => simp [intOf]; omega
    | succ m =>
     have hp0 : (0 : Int) < ((m + 1 : Nat) : Int) := by omega
     have hp0' : (0 : Int) < (m : Int) + 1 := by omega
     have hwm : IntKind.i64.wrap (m : Int) = m := IntWalk.i64_in _ (by omega)
     have hwm' : IntKind.i64.wrap ((m : Int) + 1 - 1) = m := by rw [show (m : Int) + 1 - 1 = m by omega]; exact hwm
     go_wp2_with fail
     refine (exchanged_c Ao n co (moved xs k (m + 1)) m wr hlo.out (by omega) (by omega)).mono ?_
     rw [moved_step (by rw [HXL.out]; exact hlt) (show m < k by omega)]
     rintro e w5 ⟨A5, n5, c5, rfl, hl5, hb5, _⟩
     obtain rfl : n5 = n := by rw [← hl5.len, moved_len (by rw [HXL.out]; exact hlt), HXL.out]
     have hB5 := hB2r.trans (hb5.mono hB2r.size)
     have hBo5 := hBr.trans (hb5.mono hBrs)
     have HB5 := hI (HB2.out.trans (hB5.mono HB2.out.size))
     have HL5 := hI hl5; clear hl5 hb5 hlo
     go_wp2_with fail
     refine (outcomes_c A5 n5 c5 (moved xs k m) A' n' c' wss w5 HL5.out (HW.out.below HB5.out rr) (HT.out.below HB5.out rr) (by omega)).mono ?_
     rw [show lawsD (moved xs k m) = moved (lawsD xs) k m from moved_map LawR.l xs k m]
     rintro e w6 ⟨A6, n6, c6, rfl, hw6, hb6⟩
     have hB6 := hB5.trans (hb6.mono hB5.size)
     have hBo6 := hBo5.trans (hb6.mono hBo5.size)
     have HB6 := hI (HB2.out.trans (hB6.mono HB2.out.size))
     have HL6 := hI (HL5.out.below hb6 rr)
     have HW6 := hI hw6; clear hw6 hb6 HL5 hB5 hBo5
     obtain ⟨b, hb⟩ : ∃ b, b = outsM (moved (lawsD xs) k m) wss := ⟨_, rfl⟩
     rw [← hb] at HW6 ⊢
     have HBB := hI hb; clear hb
     by_cases h4 : b.1 = 0
     case neg =>
      have h5 : (b.1 != 0) = true := by simpa using h4
      have HM' : Hid (blocksM (lawsD xs) wss = (b.1, [])) := by
       show _ = _
       rw [hgo.out]
       exact bgo_bad hlt (hpl.out.trans (place_bad (by rw [← HBB.out]; exact h4))) (by rw [← HBB.out]; exact h4) |>.trans (by rw [← HBB.out])
      clear h4
      go_wp2
      go_ret2
      exact RetPl.bad HM'.out HB6.out
     have h5 : (b.1 != 0) = false := by simpa using h4
     have HB0 : Hid ((outsM (moved (lawsD xs) k m) wss).1 = 0) := by show _ = _; rw [← HBB.out]; exact h4
     have HL4 : Hid (n6 = n') := by show n6 = n'; rw [← HW6.out.len, HBB.out]; exact HOL.out _ (moved_E (chk_laws HC0.out) (by rw [HLN.out]; exact hlt)) HB0.out
     clear h4
     go_wp2_with fail
     refine (differ_c A2 A6 n2 n6 c2 c6 a.2 b.2 w6 (HW2.out.below hB6 rr) HW6.out (by rw [HL2.out, HL4.out]; exact rr)).mono ?_
     rintro e w7 ⟨rfl, hb7⟩
     have hB7 := hB6.trans (hb7.mono hB6.size)
     have hBo7 := hBo6.trans (hb7.mono hBo6.size)
     have HL7 := hI (HL6.out.below hb7 rr)
     have HOWN7 : Hid (w7.ownsRow w2.heap.size 3 1 u9 k (ints dn)) := own_heap hown.out fun b e => hBo7.block b (hown.out.lt b e).2
     clear hb7 HL6 h5 hB6 hBo6
     cases hd : diffN a.2 b.2 with
     | some k2 =>
      have HD : Hid (diffI a.2 b.2 = (k2 : Int)) := by show _ = _; unfold diffI; rw [hd]
      have HGN : Hid (blocksM (lawsD xs) wss = blocksGo (lawsD xs) wss (n5 - (k + 1)) (k + 1) (dn ++ [m + 1])) := by
       show _ = _
       rw [hgo.out]
       exact bgo_next hlt (hpl.out.trans (place_diff HB0.out (by rw [← HBB.out, ← HA.out]; exact hd)))
      clear hd
      rw [HD.out]
      have hk2 : (0 : Int) ≤ (k2 : Int) := by omega
      obtain ⟨A8, c8, hv8⟩ := own_form HOWN7.out
      subst hv8
      go_wp2_with (at_builtin; refine append_int rfl (.tmp 58) (.tmp 60) rfl w2.heap.size (.slice A8 k c8) k (ints dn) rfl ?ho ⟨w7.heap.size, 0, none⟩ 1 (.int .i64 ((m + 1 : Nat) : Int)) rfl (cell_one_new _ _ _) rfl ?hl ?hz ?hc)
      case ho => exact (HOWN7.out).alloc _
      case hl => omega
      case hz => have := hB7.size; first | omega | (simp; omega)
      case hc =>
       intro v' w9 hown9 hg9 _
       have HOWN9 : Hid (w9.ownsRow w2.heap.size 3 1 v' (k + 1) (ints (dn ++ [m + 1]))) := by show World.ownsRow _ _ _ _ _ _ _; simpa [ints] using hown9
       have hB9 : Below w2.heap.size w2 w9 := own_below (hB7.alloc hB7.size _) ((HOWN7.out).alloc _) hg9 rr (by have := hB7.size; simp; omega)
       clear hown9 hg9
       go_wp2
       go_roundw
       case rel => exact ⟨k + 1, dn ++ [m + 1], by go_num, by omega, by simp [hdl], HOWN9, HGN.out, hB9⟩
       case measure => simp [intOf]; omega
     | none =>
      have HD : Hid (diffI a.2 b.2 = -1) := by show _ = _; unfold diffI; rw [hd]
      have HPN : Hid (placeGo (lawsD xs) wss k k = placeGo (lawsD xs) wss k m) := by
       show _ = _
       exact hpl.out.trans (place_next HB0.out (by rw [← HBB.out, ← HA.out]; exact hd))
      clear hd
      rw [HD.out]
      go_wp2
      go_roundw
      case rel => exact ⟨m, A5, c5, rfl, rfl, by go_num, by omega, HL7.out, HPN.out, hBo7⟩
      case measure => simp [intOf]
  ·obtain rfl : k = n := by omega
   have HM' : Hid (blocksM (lawsD xs) wss = (0, dn)) := by show _ = _; rw [hgo.out, Nat.sub_self]; rfl
   obtain ⟨A9, c9, hv9⟩ := own_form hown.out
   subst hv9
   go_wp2
   go_ret2
   refine ⟨A9, _, c9, by rw [HM'.out]; rfl, ?_, HB2.out.trans (hB.mono HB2.out.size)⟩
   rw [HM'.out]
   have := Cells.of_own hown.out (by decide)
   show Cells _ _ _ _ _ (List.map _ _)
   rw [List.map_map]
   exact this
end Go.Proofs.YtcpcojgmmpnkoaaGreatDoor

/-
  ablautref12.same, Blocks.
-/
import Derived.Test.YtgfjlflbhipliaaGreatDoorXR12b
import Derived.Test.YtgfjlflbhipliaaGreatDoorG44
set_option linter.unusedVariables false
set_option linter.unusedSimpArgs false
set_option maxRecDepth 100000
set_option maxHeartbeats 4000000
namespace Go.Proofs.YtgfjlflbhipliaaGreatDoor
open Go.RowKit Go.Shelf
def SameR (X Y : List LawD) (wss : List (List Snd)) (b : Bool) (er : Int) : Prop :=
 (er = 11 ∧ (¬ allOK X wss ∨ ¬ allOK Y wss)) ∨ (er = 0 ∧ allOK X wss ∧ allOK Y wss ∧ (b = true ↔ endsL X wss = endsL Y wss))
theorem ends_extN {X Y : List LawD} {wss : List (List Snd)} : endsL X wss = endsL Y wss ↔ ∀ m, m < wss.length → (endsL X wss).getD m [] = (endsL Y wss).getD m [] := by
 constructor
 ·intro h m _; rw [h]
 ·intro h
  refine List.ext_getElem (by simp [endsL]) fun m h1 h2 => ?_
  have := h m (by simpa [endsL] using h1)
  rw [List.getD_eq_getElem?_getD, List.getD_eq_getElem?_getD, List.getElem?_eq_getElem h1, List.getElem?_eq_getElem h2] at this
  exact this
theorem r12same_c (A : Option Addr) (n c : Nat) (xs : List LawR) (Ay : Option Addr) (ny cy : Nat) (ys : List LawR) (A' : Option Addr) (n' c' : Nat) (wss : List (List Snd)) (w : World) (hx : IsLaws w A n c xs) (hy : IsLaws w Ay ny cy ys) (hw : IsWords w A' n' c' wss) (hu : LawsU xs) (huy : LawsU ys) (hwu : ∀ x ∈ wss, WordU x)
  (hex : lawsE (lawsD xs) = 0) (hey : lawsE (lawsD ys) = 0) (hok : ∀ x ∈ wss, wcheck x = 0) (hn : n' ≤ 256) :
  Calls Tryz.prog 53 #[.slice A n c, .slice Ay ny cy, .slice A' n' c'] w fun e w' =>
   (∃ b er, e = .returned (.tuple #[.bool b, .int .i64 er]) ∧ SameR (lawsD xs) (lawsD ys) wss b er) ∧ Below w.heap.size w w' := by
 have hmw := hw.max
 have HX := hI hx; clear hx
 have HYL := hI hy; clear hy
 have HW := hI hw; clear hw
 have HU := hI hu; clear hu
 have HUY := hI huy; clear huy
 have HWU := hI hwu; clear hwu
 have HEX := hI hex; clear hex
 have HEY := hI hey; clear hey
 have HCK := hI hok; clear hok
 go_enter Tryz.func53, Tryz.ntmps53
 go_wp2_with fail
 go_loopw [8, 9] (fun v t wr => ∃ (j : Nat) (d : Bool), v = .bool d ∧ t = .int .i64 j ∧ j ≤ n' ∧ Hid (d = true ↔ ∀ m, m < j → (endsL (lawsD xs) wss).getD m [] = (endsL (lawsD ys) wss).getD m []) ∧ Hid (∀ m x, m < j → wss[m]? = some x → (endM (lawsD xs) x).1 = 0 ∧ (endM (lawsD ys) x).1 = 0) ∧ Below w.heap.size w wr) (fun _ t _ => n' - (intOf t).toNat)
 case atStart => exact ⟨0, true, rfl, rfl, Nat.zero_le _, ⟨fun _ m h => by omega, fun _ => rfl⟩, (fun m x h => by omega), Below.refl _ _⟩
 case round =>
  obtain ⟨j, d, rfl, rfl, hj, hd, hok, hB⟩ := hrel
  have hBs := hB.size
  by_cases hlt : j < n'
  ·have hj1 : (j : Int) < (n' : Int) := by omega
   obtain ⟨b, off, A2, n2, c2, x, rfl, hbl, hcell, hxk, hwx⟩ := (HW.out.below hB rr).at_ hlt
   have hmem := List.mem_of_getElem? hxk
   have HXU : Hid (WordU x) := HWU.out x hmem
   have hd1 := derive_ok HEX.out (HCK.out x hmem)
   have hd2 := derive_ok HEY.out (HCK.out x hmem)
   have HXK := hI hxk
   have HWX := hI hwx
   have HMEM := hI hmem
   have HD1 := hI hd1
   have HD2 := hI hd2
   clear hwx hxk hmem hd1 hd2
   go_wp2_with fail
   refine (r10Derive_c A n c xs A2 n2 c2 x wr (HX.out.below hB rr) HWX.out HU.out HXU.out).mono ?_
   rintro e w5 ⟨A5, n5, c5, rfl, hw5, hb5⟩
   have hB5 := hB.trans (hb5.mono hBs)
   have hcell5 := (hb5.cell (p := ⟨b, off + j, none⟩) hbl).trans hcell
   have HWX5 := hI (HWX.out.below hb5 rr)
   have HW5 := hI hw5
   clear hw5 hb5 hcell HWX
   by_cases h4 : (endM (lawsD xs) x).1 = 0
   case neg =>
    have h6 : deriveM (lawsD xs) x = (11, []) := by rw [HD1.out, if_pos (by simpa using h4)]
    have HS : Hid (SameR (lawsD xs) (lawsD ys) wss false 11) := .inl ⟨rfl, .inl fun q => h4 (q x HMEM.out)⟩
    rw [h6]
    clear h4 h6
    go_wp2
    go_ret2
    exact ⟨⟨_, _, rfl, HS.out⟩, hB5⟩
   have h6 : deriveM (lawsD xs) x = (0, (endM (lawsD xs) x).2) := by rw [HD1.out, if_neg (by simpa using h4)]
   rw [h6] at HW5 ⊢
   have HOK1 := hI h4
   obtain ⟨y1, hy1⟩ : ∃ y, y = (endM (lawsD xs) x).2 := ⟨_, rfl⟩
   rw [← hy1] at HW5
   have HY1 := hI hy1
   clear h4 h6 hy1
   go_wp2_with fail
   refine (r10Derive_c Ay ny cy ys A2 n2 c2 x w5 (HYL.out.below hB5 rr) HWX5.out HUY.out HXU.out).mono ?_
   rintro e w7 ⟨A7, n7, c7, rfl, hw7, hb7⟩
   have HW7 := hI hw7; clear hw7
   have HW5' := hI (HW5.out.below hb7 rr); clear HW5
   have hB7 := hB5.trans (hb7.mono hB5.size)
   clear hb7 hcell5
   by_cases h4 : (endM (lawsD ys) x).1 = 0
   case neg =>
    have h6 : deriveM (lawsD ys) x = (11, []) := by rw [HD2.out, if_pos (by simpa using h4)]
    have HS : Hid (SameR (lawsD xs) (lawsD ys) wss false 11) := .inl ⟨rfl, .inr fun q => h4 (q x HMEM.out)⟩
    rw [h6]
    clear h4 h6
    go_wp2
    go_ret2
    exact ⟨⟨_, _, rfl, HS.out⟩, hB7⟩
   have h6 : deriveM (lawsD ys) x = (0, (endM (lawsD ys) x).2) := by rw [HD2.out, if_neg (by simpa using h4)]
   rw [h6] at HW7 ⊢
   have HOK2 := hI h4
   obtain ⟨y2, hy2⟩ : ∃ y, y = (endM (lawsD ys) x).2 := ⟨_, rfl⟩
   rw [← hy2] at HW7
   have HY2 := hI hy2
   clear h4 h6 hy2
   have HOKN : Hid (∀ m x, m < j + 1 → wss[m]? = some x → (endM (lawsD xs) x).1 = 0 ∧ (endM (lawsD ys) x).1 = 0) := by
    show ∀ m x, _
    intro m z hm hz
    rcases Nat.lt_or_ge m j with q | q
    ·exact hok.out m z q hz
    ·obtain rfl : m = j := by omega
     rw [HXK.out] at hz
     obtain rfl := Option.some.inj hz
     exact ⟨HOK1.out, HOK2.out⟩
   have HDN : Hid ((d && decide (y1 = y2)) = true ↔ ∀ m, m < j + 1 → (endsL (lawsD xs) wss).getD m [] = (endsL (lawsD ys) wss).getD m []) := by
    show _ ↔ _
    constructor
    ·intro h m hm
     simp only [Bool.and_eq_true, decide_eq_true_eq] at h
     rcases Nat.lt_or_ge m j with h1 | h1
     ·exact hd.out.1 h.1 m h1
     ·obtain rfl : m = j := by omega
      rw [ends_get HXK.out, ends_get HXK.out, ← HY1.out, ← HY2.out]; exact h.2
    ·intro h
     simp only [Bool.and_eq_true, decide_eq_true_eq]
     have h1 := h j (by omega)
     rw [ends_get HXK.out, ends_get HXK.out, ← HY1.out, ← HY2.out] at h1
     exact ⟨hd.out.2 fun m hm => h m (by omega), h1⟩
   cases d with
   | false =>
    have HDF : Hid (false = true ↔ ∀ m, m < j + 1 → (endsL (lawsD xs) wss).getD m [] = (endsL (lawsD ys) wss).getD m []) := by
     show _ ↔ _
     rw [← HDN.out, Bool.false_and]
    go_wp2
    go_roundw
    case rel => exact ⟨j + 1, false, rfl, by go_num, by omega, HDF.out, HOKN.out, hB7⟩
    case measure => simp [intOf]; omega
   | true =>
    go_wp2_with fail
    refine (rEqual_c A5 A7 n5 n7 c5 c7 y1 y2 w7 HW5'.out HW7.out).mono ?_
    rintro e w8 ⟨rfl, hb8⟩
    have hB8 := hB7.trans (hb8.mono hB7.size)
    clear hb8
    have HDF : Hid (decide (y1 = y2) = true ↔ ∀ m, m < j + 1 → (endsL (lawsD xs) wss).getD m [] = (endsL (lawsD ys) wss).getD m []) := by
     show _ ↔ _
     rw [← HDN.out, Bool.true_and]
    obtain ⟨d, hdd⟩ : ∃ d, d = decide (y1 = y2) := ⟨_, rfl⟩
    rw [← hdd] at HDF ⊢
    clear hdd
    go_wp2
    go_roundw
    case rel => exact ⟨j + 1, d, rfl, by go_num, by omega, HDF.out, HOKN.out, hB8⟩
    case measure => simp [intOf]; omega
  ·obtain rfl : j = n' := by omega
   have HS : Hid (SameR (lawsD xs) (lawsD ys) wss d 0) := by
    refine .inr ⟨rfl, fun x hx => ?_, fun x hx => ?_, ?_⟩
    ·obtain ⟨m, hm, rfl⟩ := List.getElem_of_mem hx
     exact (hok.out m _ (by rw [← HW.out.len]; exact hm) (List.getElem?_eq_getElem hm)).1
    ·obtain ⟨m, hm, rfl⟩ := List.getElem_of_mem hx
     exact (hok.out m _ (by rw [← HW.out.len]; exact hm) (List.getElem?_eq_getElem hm)).2
    ·rw [ends_extN, HW.out.len]; exact hd.out
   go_wp2
   go_ret2
   exact ⟨⟨_, _, rfl, HS.out⟩, hB⟩
theorem r12Blocks_c (A : Option Addr) (n c : Nat) (xs : List LawR) (A' : Option Addr) (n' c' : Nat) (wss : List (List Snd)) (w : World) (hx : IsLaws w A n c xs) (hw : IsWords w A' n' c' wss) (hu : LawsU xs) (hwu : ∀ x ∈ wss, WordU x) :
  Calls Tryz.prog 20 #[.slice A n c, .slice A' n' c'] w (RetPl w (blocksM (lawsD xs) wss)) := by
 have hmx := hx.max
 have hmw := hw.max
 have HX := hI hx; clear hx
 have HW := hI hw; clear hw
 have HU := hI hu; clear hu
 have HWU := hI hwu; clear hwu
 have HLN : Hid ((lawsD xs).length = n) := by show (lawsD xs).length = n; rw [lawsD, List.length_map]; exact HX.out.len
 have HXL : Hid (xs.length = n) := HX.out.len
 obtain ⟨er, her⟩ : ∃ er, er = chkM (lawsD xs) wss := ⟨_, rfl⟩
 have HER := hI her
 go_enter Tryz.func20, Tryz.ntmps20
 go_wp2_with fail
 refine (r12check_c A n c xs A' n' c' wss w HX.out HW.out HU.out HWU.out).mono ?_
 rintro e w1 ⟨rfl, hB1⟩
 rw [← her]
 clear her
 have HB1 := hI hB1; clear hB1
 by_cases h0 : er = 0
 case neg =>
  have h1 : (er != 0) = true := by simpa using h0
  have HM : Hid (blocksM (lawsD xs) wss = (er, [])) := by show _ = _; unfold blocksM; rw [← HER.out, if_pos h0]
  clear h0
  go_wp2
  go_ret2
  exact RetPl.bad HM.out HB1.out
 have h1 : (er != 0) = false := by simpa using h0
 have hc0 : chkM (lawsD xs) wss = 0 := by rw [← HER.out]; exact h0
 have h256 : n' ≤ 256 := by have h := (chk_all hc0).1; rw [HW.out.len] at h; exact h
 have hn64 : n ≤ 64 := by have h := lawsE_len (chk_laws hc0); rw [HLN.out] at h; exact h
 have HLE : Hid (lawsE (lawsD xs) = 0) := chk_laws hc0
 have HCK : Hid (∀ x ∈ wss, wcheck x = 0) := (chk_all hc0).2
 have HC0 := hI hc0; clear hc0 h0
 go_wp2_with fail
 refine (r12same_c A n c xs A n c xs A' n' c' wss w1 (HX.out.below HB1.out rr) (HX.out.below HB1.out rr) (HW.out.below HB1.out rr) HU.out HU.out HWU.out HLE.out HLE.out HCK.out h256).mono ?_
 rintro e w2 ⟨⟨b0, e0, rfl, hs0⟩, hB2⟩
 have HB2 := hI (HB1.out.trans (hB2.mono HB1.out.size)); clear hB2 HB1 h1
 rcases hs0 with ⟨rfl, hn⟩ | ⟨rfl, hall, _, _⟩
 ·have HM : Hid (blocksM (lawsD xs) wss = (11, [])) := by
   show _ = _
   have hn' : ¬ allOK (lawsD xs) wss := by rcases hn with h | h <;> exact h
   rcases outs_cases HLE.out HCK.out with ⟨q, _⟩ | ⟨_, q⟩
   ·unfold blocksM; rw [if_neg (by rw [HC0.out]; decide), q, if_pos (by decide)]
   ·exact absurd q hn'
  clear hn
  go_wp2
  go_ret2
  exact RetPl.bad HM.out HB2.out
 have HO : Hid (outsM (lawsD xs) wss = (0, endsL (lawsD xs) wss)) := by
  show _ = _
  rcases outs_cases HLE.out HCK.out with ⟨_, q⟩ | ⟨q, _⟩
  ·exact absurd hall q
  ·exact q
 have HM : Hid (blocksM (lawsD xs) wss = blocksGo (lawsD xs) wss n 0 []) := by show _ = _; unfold blocksM; rw [if_neg (by rw [HC0.out]; decide), HO.out, if_neg (by simp), HLN.out]
 clear hall
 have hB2s := HB2.out.size
 go_wp2_with fail
 go_loopw [7, 8] (fun v i wr => ∃ (k : Nat) (dn : List Nat), i = .int .i64 k ∧ k ≤ n ∧ dn.length = k ∧ Hid (wr.ownsRow w2.heap.size 3 1 v k (ints dn)) ∧ Hid (blocksM (lawsD xs) wss = blocksGo (lawsD xs) wss (n - k) k dn) ∧ Below w2.heap.size w2 wr) (fun _ i _ => n - (intOf i).toNat)
 case atStart => exact ⟨0, [], rfl, Nat.zero_le _, rfl, World.ownsRow_nil _ _ _ _, HM.out, Below.refl _ _⟩
 case round =>
  obtain ⟨k, dn, rfl, hk, hdl, hown, hgo, hB⟩ := hrel
  have hBs := hB.size
  by_cases hlt : k < n
  ·have hk1 : (k : Int) < (n : Int) := by omega
   obtain ⟨wo, hwo⟩ : ∃ wo, wo = wr := ⟨_, rfl⟩
   subst hwo
   have HBO := hI (HB2.out.trans (hB.mono HB2.out.size))
   go_wp2_with fail
   go_loopw [9] (fun p wr => ∃ (q : Nat), p = .int .i64 q ∧ q ≤ k ∧ Hid (placeGo (lawsD xs) wss k k = placeGo (lawsD xs) wss k q) ∧ Below wo.heap.size wo wr) (fun p _ => (intOf p).toNat)
   case atStart => exact ⟨k, rfl, rr, rfl, Below.refl _ _⟩
   case round =>
    obtain ⟨q, rfl, hq, hpl, hBr⟩ := hrel
    have hBrs := hBr.size
    have hB2r := hB.trans (hBr.mono hBs)
    have HBR := hI (HB2.out.trans (hB2r.mono HB2.out.size))
    have HOWNr : Hid (wr.ownsRow w2.heap.size 3 1 u7 k (ints dn)) := own_heap hown.out fun b e => hBr.block b (hown.out.lt b e).2
    cases q with
    | zero =>
     have HGN : Hid (blocksM (lawsD xs) wss = blocksGo (lawsD xs) wss (n - (k + 1)) (k + 1) (dn ++ [0])) := by show _ = _; rw [hgo.out, bgo_next hlt hpl.out]
     obtain ⟨A8, c8, hv8⟩ := own_form HOWNr.out
     subst hv8
     go_wp2_with (at_builtin; refine append_int rfl (.tmp 55) (.tmp 57) rfl w2.heap.size (.slice A8 k c8) k (ints dn) rfl ?ho ⟨wr.heap.size, 0, none⟩ 1 (.int .i64 0) rfl (cell_one_new _ _ _) rfl ?hl ?hz ?hc)
     case ho => exact (HOWNr.out).alloc _
     case hl => omega
     case hz => have := hB2r.size; first | omega | (simp; omega)
     case hc =>
      intro v' w9 hown9 hg9 _
      have HOWN9 : Hid (w9.ownsRow w2.heap.size 3 1 v' (k + 1) (ints (dn ++ [0]))) := by show World.ownsRow _ _ _ _ _ _ _; simpa [ints] using hown9
      have hB9 : Below w2.heap.size w2 w9 := own_below (hB2r.alloc hB2r.size _) ((HOWNr.out).alloc _) hg9 rr (by have := hB2r.size; simp; omega)
      clear hown9 hg9
      go_wp2
      go_roundw
      case rel => exact ⟨k + 1, dn ++ [0], by go_num, by omega, by simp [hdl], HOWN9, HGN.out, hB9⟩
      case measure => simp [intOf]; omega
    | succ m =>
     have hp0 : (0 : Int) < ((m + 1 : Nat) : Int) := by omega
     have hp0' : (0 : Int) < (m : Int) + 1 := by omega
     have hwm : IntKind.i64.wrap (m : Int) = m := IntWalk.i64_in _ (by omega)
     have hwm' : IntKind.i64.wrap ((m : Int) + 1 - 1) = m := by rw [show (m : Int) + 1 - 1 = m by omega]; exact hwm
     go_wp2_with fail
     refine (r12Moved_c A n c xs k m wr (HX.out.below HBR.out rr) (by omega) hlt (by omega)).mono ?_
     rintro e w5 ⟨A5, n5, c5, rfl, hl5, hb5, _⟩
     have hB5 := hB2r.trans (hb5.mono hB2r.size)
     have hBo5 := hBr.trans (hb5.mono hBrs)
     have HB5 := hI (HB2.out.trans (hB5.mono HB2.out.size))
     have HL5 := hI hl5; clear hl5 hb5
     have hmv : lawsD (moved xs k m) = moved (lawsD xs) k m := moved_map LawR.l xs k m
     have hme : lawsE (lawsD (moved xs k m)) = 0 := by rw [hmv]; exact moved_E HLE.out (by rw [HLN.out]; exact hlt)
     have HMV := hI hmv; clear hmv
     have HME := hI hme; clear hme
     go_wp2_with fail
     refine (r12same_c A n c xs A5 n5 c5 (moved xs k m) A' n' c' wss w5 (HX.out.below HB5.out rr) HL5.out (HW.out.below HB5.out rr) HU.out (lawsU_moved HU.out) HWU.out HLE.out HME.out HCK.out h256).mono ?_
     rw [HMV.out]
     rintro e w7 ⟨⟨d, er7, rfl, hs⟩, hb7⟩
     have hB7 := hB5.trans (hb7.mono hB5.size)
     have hBo7 := hBo5.trans (hb7.mono hBo5.size)
     have HB7 := hI (HB2.out.trans (hB7.mono HB2.out.size))
     have HOWN7 : Hid (w7.ownsRow w2.heap.size 3 1 u7 k (ints dn)) := own_heap hown.out fun b e => hBo7.block b (hown.out.lt b e).2
     have HLM : Hid (lawsE (moved (lawsD xs) k m) = 0) := moved_E HLE.out (by rw [HLN.out]; exact hlt)
     clear hb7 HL5 hB5 hBo5
     rcases hs with ⟨rfl, hn⟩ | ⟨rfl, ha1, ha2, hd⟩
     ·have HM' : Hid (blocksM (lawsD xs) wss = (11, [])) := by
       show _ = _
       rcases outs_cases HLM.out HCK.out with ⟨q, _⟩ | ⟨_, q⟩
       ·rw [hgo.out]
        exact bgo_bad hlt (hpl.out.trans (place_bad (by rw [q]; decide))) (by rw [q]; decide) |>.trans (by rw [q])
       ·rcases outs_cases HLE.out HCK.out with ⟨q1, _⟩ | ⟨_, q1⟩
        ·rw [HO.out] at q1; cases q1
        ·rcases hn with h | h
         ·exact absurd q1 h
         ·exact absurd q h
      clear hn
      go_wp2
      go_ret2
      exact RetPl.bad HM'.out HB7.out
     have hom : outsM (moved (lawsD xs) k m) wss = (0, endsL (moved (lawsD xs) k m) wss) := by
      rcases outs_cases HLM.out HCK.out with ⟨_, q⟩ | ⟨q, _⟩
      ·exact absurd ha2 q
      ·exact q
     have hde := diffN_eq (x := endsL (lawsD xs) wss) (y := endsL (moved (lawsD xs) k m) wss) (by simp [endsL])
     cases d with
     | false =>
      have HGN : Hid (blocksM (lawsD xs) wss = blocksGo (lawsD xs) wss (n - (k + 1)) (k + 1) (dn ++ [m + 1])) := by
       show _ = _
       cases hdd : diffN (endsL (lawsD xs) wss) (endsL (moved (lawsD xs) k m) wss) with
       | none => have := hd.2 (hde.1 hdd); cases this
       | some j0 =>
        rw [hgo.out]
        exact bgo_next hlt (hpl.out.trans (place_diff (by rw [hom]) (by rw [hom, HO.out]; exact hdd)))
      clear hd hde hom ha1 ha2
      obtain ⟨A8, c8, hv8⟩ := own_form HOWN7.out
      subst hv8
      go_wp2_with (at_builtin; refine append_int rfl (.tmp 55) (.tmp 57) rfl w2.heap.size (.slice A8 k c8) k (ints dn) rfl ?ho ⟨w7.heap.size, 0, none⟩ 1 (.int .i64 ((m + 1 : Nat) : Int)) rfl (cell_one_new _ _ _) rfl ?hl ?hz ?hc)
      case ho => exact (HOWN7.out).alloc _
      case hl => omega
      case hz => have := hB7.size; first | omega | (simp; omega)
      case hc =>
       intro v' w9 hown9 hg9 _
       have HOWN9 : Hid (w9.ownsRow w2.heap.size 3 1 v' (k + 1) (ints (dn ++ [m + 1]))) := by show World.ownsRow _ _ _ _ _ _ _; simpa [ints] using hown9
       have hB9 : Below w2.heap.size w2 w9 := own_below (hB7.alloc hB7.size _) ((HOWN7.out).alloc _) hg9 rr (by have := hB7.size; simp; omega)
       clear hown9 hg9
       go_wp2
       go_roundw
       case rel => exact ⟨k + 1, dn ++ [m + 1], by go_num, by omega, by simp [hdl], HOWN9, HGN.out, hB9⟩
       case measure => simp [intOf]; omega
     | true =>
      have HPN : Hid (placeGo (lawsD xs) wss k k = placeGo (lawsD xs) wss k m) := by
       show _ = _
       rw [hpl.out]
       exact place_next (by rw [hom]) (by rw [hom, HO.out]; exact hde.2 (hd.1 rfl))
      clear hd hde hom ha1 ha2
      go_wp2
      go_roundw
      case rel => exact ⟨m, by first | rfl | go_num, by omega, HPN.out, hBo7⟩
      case measure => first | (simp [intOf]; done) | (simp [intOf]; omega)
  ·obtain rfl : k = n := by omega
   have HM' : Hid (blocksM (lawsD xs) wss = (0, dn)) := by show _ = _; rw [hgo.out, Nat.sub_self]; rfl
   obtain ⟨A9, c9, hv9⟩ := own_form hown.out
   subst hv9
   go_wp2
   go_ret2
   refine ⟨A9, _, c9, by rw [HM'.out]; rfl, ?_, HB2.out.trans (hB.mono HB2.out.size)⟩
   rw [HM'.out]
   have := Cells.of_own hown.out (by decide)
   show Cells _ _ _ _ _ (List.map _ _)
   rw [List.map_map]
   exact this
end Go.Proofs.YtgfjlflbhipliaaGreatDoor

/-
  ablautref12.Matters.
-/
import Derived.Test.YtgfjlflbhipliaaGreatDoorXR12a
import Derived.Test.YtgfjlflbhipliaaGreatDoorG15
set_option linter.unusedVariables false
set_option linter.unusedSimpArgs false
set_option maxRecDepth 100000
set_option maxHeartbeats 4000000
namespace Go.Proofs.YtgfjlflbhipliaaGreatDoor
open Go.RowKit Go.Shelf
theorem mat_of_words {ls : List LawD} {wss : List (List Snd)} {k : Nat} (h : chkM ls wss = 0) (hi : k + 1 < ls.length) (h1 : allOK ls wss) (h2 : allOK (exch ls k) wss) :
  matM ls k wss = diffR (diffN (endsL ls wss) (endsL (exch ls k) wss)) := by
 have hl := chk_laws h
 have hw := (chk_all h).2
 unfold matM
 rw [if_neg (by simpa using h), if_neg (by omega), Int.toNat_natCast]
 rcases outs_cases hl hw with ⟨_, q⟩ | ⟨e1, _⟩
 ·exact absurd h1 q
 rcases outs_cases (exch_E (i := k) hl) hw with ⟨_, q⟩ | ⟨e2, _⟩
 ·exact absurd h2 q
 rw [e1, e2, if_neg (by simp), if_neg (by simp)]
theorem mat_of_fail {ls : List LawD} {wss : List (List Snd)} {k : Nat} (h : chkM ls wss = 0) (hi : k + 1 < ls.length) (hn : ¬ allOK ls wss ∨ ¬ allOK (exch ls k) wss) : matM ls k wss = (0, false, 11) := by
 rcases mat_cases h hi with ⟨q, _⟩ | ⟨q1, q2, _⟩ | ⟨q1, q2, _⟩
 ·exact q
 ·rcases hn with n | n
  ·exact absurd q1 n
  ·exact absurd q2 n
 ·rcases hn with n | n
  ·exact absurd q1 n
  ·exact absurd q2 n
def optI (f : Option Nat) : Int := match f with | some m => (m : Int) | none => -1
theorem lawsU_moved {xs : List LawR} {i p : Nat} (h : LawsU xs) : LawsU (moved xs i p) := fun x hx => h x (moved_mem hx)
theorem lawsD_moved (xs : List LawR) {k : Nat} (hk : k + 1 < xs.length) : lawsD (moved xs k (k + 1)) = exch (lawsD xs) k := by
 rw [lawsD, moved_map]; exact moved_exch (by rw [List.length_map]; exact hk)
theorem ends_get {ls : List LawD} {wss : List (List Snd)} {j : Nat} {x : List Snd} (h : wss[j]? = some x) : (endsL ls wss).getD j [] = (endM ls x).2 :=
 getD_of (by unfold endsL; rw [List.getElem?_map, h]; rfl)
def nextF (f : Option Nat) (b : Bool) (j : Nat) : Option Nat := match f with | some m => some m | none => if b then some j else none
theorem find_next {P : Nat → Bool} {j : Nat} : (List.range (j + 1)).find? P = nextF ((List.range j).find? P) (P j) j := by
 rw [List.range_succ, List.find?_append]
 unfold nextF
 cases (List.range j).find? P <;> simp [List.find?_cons]
 cases P j <;> rfl
theorem r12Matters_c (A : Option Addr) (n c : Nat) (xs : List LawR) (i : Int) (A' : Option Addr) (n' c' : Nat) (wss : List (List Snd)) (w : World) (hx : IsLaws w A n c xs) (hw : IsWords w A' n' c' wss) (hu : LawsU xs) (hwu : ∀ x ∈ wss, WordU x) :
  Calls Tryz.prog 18 #[.slice A n c, .int .i64 i, .slice A' n' c'] w fun e w' =>
   e = .returned (.tuple #[.int .i64 (matM (lawsD xs) i wss).1, .bool (matM (lawsD xs) i wss).2.1, .int .i64 (matM (lawsD xs) i wss).2.2]) ∧ Below w.heap.size w w' := by
 have hmx := hx.max
 have hmw := hw.max
 have HX := hI hx; clear hx
 have HW := hI hw; clear hw
 have HU := hI hu; clear hu
 have HWU := hI hwu; clear hwu
 have HLN : Hid ((lawsD xs).length = n) := by show (lawsD xs).length = n; rw [lawsD, List.length_map]; exact HX.out.len
 obtain ⟨r, hr⟩ : ∃ r, r = matM (lawsD xs) i wss := ⟨_, rfl⟩
 rw [← hr]
 have HR := hI hr; clear hr
 obtain ⟨er, her⟩ : ∃ er, er = chkM (lawsD xs) wss := ⟨_, rfl⟩
 have HER := hI her
 go_enter Tryz.func18, Tryz.ntmps18
 go_wp2_with fail
 refine (r12check_c A n c xs A' n' c' wss w HX.out HW.out HU.out HWU.out).mono ?_
 rintro e w1 ⟨rfl, hB1⟩
 rw [← her]
 clear her
 have HB1 := hI hB1; clear hB1
 by_cases h0 : er = 0
 case neg =>
  have h1 : (er != 0) = true := by simpa using h0
  have HM : Hid (r = (0, false, er)) := by show r = _; rw [HR.out]; unfold matM; rw [← HER.out, if_pos h0]
  clear h0
  go_wp2
  go_ret3
  exact ⟨by rw [HM.out]; rfl, HB1.out⟩
 have h1 : (er != 0) = false := by simpa using h0
 have hc0 : chkM (lawsD xs) wss = 0 := by rw [← HER.out]; exact h0
 have h256 : n' ≤ 256 := by have h := (chk_all hc0).1; rw [HW.out.len] at h; exact h
 have hn64 : n ≤ 64 := by have h := lawsE_len (chk_laws hc0); rw [HLN.out] at h; exact h
 have HC0 := hI hc0; clear hc0 h0
 by_cases hi : i < 0 ∨ (n : Int) - 1 ≤ i
 ·have HM : Hid (r = (0, false, 3)) := by show r = _; rw [HR.out]; unfold matM; rw [if_neg (by rw [HC0.out]; decide), if_pos (by rw [HLN.out]; exact hi)]
  by_cases hi0 : i < 0
  ·clear hi
   go_wp2
   go_ret3
   exact ⟨by rw [HM.out]; rfl, HB1.out⟩
  ·have hi1 : (n : Int) - 1 ≤ i := by omega
   have hw1 : IntKind.i64.wrap ((n : Int) - 1) = (n : Int) - 1 := IntWalk.i64_in _ (by omega)
   clear hi
   go_wp2
   go_ret3
   exact ⟨by rw [HM.out]; rfl, HB1.out⟩
 obtain ⟨k, rfl⟩ : ∃ k : Nat, i = k := ⟨i.toNat, by omega⟩
 have hk : k + 1 < n := by omega
 have hk1 : ¬ ((n : Int) - 1 ≤ (k : Int)) := by omega
 have hk0 : ¬ ((k : Int) < 0) := by omega
 have hw1 : IntKind.i64.wrap ((n : Int) - 1) = (n : Int) - 1 := IntWalk.i64_in _ (by omega)
 have HKL : Hid (k + 1 < (lawsD xs).length) := by show _ < _; rw [HLN.out]; exact hk
 clear hi
 go_wp2_with fail
 go_loopw [10, 11] (fun v t wr => ∃ (j : Nat) (f : Option Nat), v = .int .i64 (optI f) ∧ t = .int .i64 j ∧ j ≤ n' ∧ (∀ m, f = some m → m < j) ∧ Hid (f = (List.range j).find? fun m => !decide ((endsL (lawsD xs) wss).getD m [] = (endsL (exch (lawsD xs) k) wss).getD m [])) ∧ Hid (∀ m x, m < j → wss[m]? = some x → (endM (lawsD xs) x).1 = 0 ∧ (endM (exch (lawsD xs) k) x).1 = 0) ∧ Below w.heap.size w wr) (fun _ t _ => n' - (intOf t).toNat)
 case atStart => exact ⟨0, none, rfl, rfl, Nat.zero_le _, (fun _ h => by cases h), rfl, (fun m x h => by omega), HB1.out⟩
 case round =>
  obtain ⟨j, f, rfl, rfl, hj, hfb, hf, hok, hB⟩ := hrel
  have hBs := hB.size
  by_cases hlt : j < n'
  ·have hj1 : (j : Int) < (n' : Int) := by omega
   obtain ⟨b, off, A2, n2, c2, x, rfl, hbl, hcell, hxk, hwx⟩ := (HW.out.below hB rr).at_ hlt
   have hmem := List.mem_of_getElem? hxk
   have HXU : Hid (WordU x) := HWU.out x hmem
   have hd1 := derive_ok (chk_laws HC0.out) ((chk_all HC0.out).2 x hmem)
   have hd2 := derive_ok (exch_E (i := k) (chk_laws HC0.out)) ((chk_all HC0.out).2 x hmem)
   have HXK := hI hxk
   have HWX := hI hwx
   have HMEM := hI hmem
   have HD1 := hI hd1
   have HD2 := hI hd2
   clear hwx hxk hmem hd1 hd2
   go_wp2_with fail
   refine (r10Derive_c A n c xs A2 n2 c2 x wr (HX.out.below hB rr) HWX.out HU.out HXU.out).mono ?_
   rintro e w5 ⟨A5, n5, c5, rfl, hw5, hb5⟩
   have hB5 := hB.trans (hb5.mono hBs)
   have hcell5 := (hb5.cell (p := ⟨b, off + j, none⟩) hbl).trans hcell
   have hbl5 : b < w5.heap.size := Nat.lt_of_lt_of_le hbl hb5.size
   have HWX5 := hI (HWX.out.below hb5 rr)
   have HW5 := hI hw5
   clear hw5 hb5 hcell HWX
   by_cases h4 : (endM (lawsD xs) x).1 = 0
   case neg =>
    have HM : Hid (r = (0, false, 11)) := by show r = _; rw [HR.out]; exact mat_of_fail HC0.out HKL.out (.inl fun q => h4 (q x HMEM.out))
    have h6 : deriveM (lawsD xs) x = (11, []) := by rw [HD1.out, if_pos (by simpa using h4)]
    rw [h6]
    clear h4 h6
    go_wp2
    go_ret3
    exact ⟨by rw [HM.out]; rfl, hB5⟩
   have h6 : deriveM (lawsD xs) x = (0, (endM (lawsD xs) x).2) := by rw [HD1.out, if_neg (by simpa using h4)]
   rw [h6] at HW5 ⊢
   have HOK1 := hI h4
   obtain ⟨y1, hy1⟩ : ∃ y, y = (endM (lawsD xs) x).2 := ⟨_, rfl⟩
   rw [← hy1] at HW5
   have HY1 := hI hy1
   clear h4 h6 hy1
   have hwk : IntKind.i64.wrap ((k : Int) + 1) = (k : Int) + 1 := IntWalk.i64_in _ (by omega)
   go_wp2
   refine plain_region (fun W' => W'.cell? ⟨b, off + j, none⟩ = some (.slice A2 n2 c2)) (by kernel_rfl) hcell5 (fun hHeld => ?_)
   (refine' anyT_tk 0 rfl ?_; (try simp only [Act.put, nA, nB, nC, nD, nE, nF])); (refine' anyT_tk 1 rfl ?_; (try simp only [Act.put, nA, nB, nC, nD, nE, nF])); (refine' anyT_tk 2 rfl ?_; (try simp only [Act.put, nA, nB, nC, nD, nE, nF])); (refine' anyT_tk 3 rfl ?_; (try simp only [Act.put, nA, nB, nC, nD, nE, nF])); (refine' anyT_tk 5 rfl ?_; (try simp only [Act.put, nA, nB, nC, nD, nE, nF])); (refine' anyT_tk 6 rfl ?_; (try simp only [Act.put, nA, nB, nC, nD, nE, nF])); (refine' anyT_tk 7 rfl ?_; (try simp only [Act.put, nA, nB, nC, nD, nE, nF])); (refine' anyT_tk 8 rfl ?_; (try simp only [Act.put, nA, nB, nC, nD, nE, nF]))
   (refine anyT_step (i := 4) (by kernel_rfl) rfl (fun K' hK' => ?_); simp only [List.getElem_toArray, List.getElem_cons_zero, List.getElem_cons_succ]; go_simp)
   have hd0 : Below w5.heap.size w5 w5.drew := (Below.refl w5.heap.size w5).drew
   have HBd := hI (hB5.trans (hd0.mono hB5.size))
   refine (r12Moved_c A n c xs k (k + 1) _ (HX.out.below HBd.out rr) (by omega) (by omega) (by omega)).mono ?_
   rintro e w6 ⟨A6, n6, c6, rfl, hl6, hb6', _⟩
   have hb6 : Below w5.heap.size w5 w6 := hd0.trans hb6'
   have hcw6 := (hb6.cell (p := ⟨b, off + j, none⟩) hbl5).trans hcell5
   refine hK' _ _ ⟨.inr hcw6, fun _ => ?_⟩
   clear hK' K' hHeld hb6' hd0
   have HL6 := hI hl6; clear hl6
   (try simp only [Act.put, nA, nB, nC, nD, nE, nF])
   (refine anyT_step (i := 9) (by kernel_rfl) rfl (fun K' hK' => ?_); simp only [List.getElem_toArray, List.getElem_cons_zero, List.getElem_cons_succ]; go_simp)
   refine (r10Derive_c A6 n6 c6 _ A2 n2 c2 x w6 HL6.out (HWX5.out.below hb6 rr) (lawsU_moved HU.out) HXU.out).mono ?_
   rw [lawsD_moved xs (by rw [HX.out.len]; exact hk)]
   obtain ⟨fa, hfa⟩ : ∃ fa, fa = deriveM (exch (lawsD xs) k) x := ⟨_, rfl⟩
   rw [← hfa]
   have HFA := hI hfa; clear hfa
   rintro e w7 ⟨A7, n7, c7, rfl, hw7, hb7'⟩
   have hb7 : Below w5.heap.size w5 w7 := hb6.trans (hb7'.mono hb6.size)
   have hcw7 := (hb7.cell (p := ⟨b, off + j, none⟩) hbl5).trans hcell5
   refine hK' _ _ ⟨.inr hcw7, fun _ => ?_⟩
   clear hK' K' hcw6 HL6 hb7' hcell5
   have HW7 := hI hw7; clear hw7
   have HW5' := hI (HW5.out.below hb7 rr); clear HW5
   have hB7 := hB5.trans (hb7.mono hB5.size)
   clear hb6 hb7 hbl5
   (try simp only [Act.put, nA, nB, nC, nD, nE, nF])
   (refine' anyT_tk 10 rfl ?_; (try simp only [Act.put, nA, nB, nC, nD, nE, nF])); (refine' anyT_tk 11 rfl ?_; (try simp only [Act.put, nA, nB, nC, nD, nE, nF])); (refine' anyT_tk 12 rfl ?_; (try simp only [Act.put, nA, nB, nC, nD, nE, nF])); (refine' anyT_tk 13 rfl ?_; (try simp only [Act.put, nA, nB, nC, nD, nE, nF]))
   (refine anyT_step (i := 14) (by kernel_rfl) rfl (fun K' hK' => ?_); simp only [List.getElem_toArray, List.getElem_cons_zero, List.getElem_cons_succ]; go_simp)
   refine hK' _ _ ⟨.inl (by kernel_rfl), fun _ => anyT_done (by kernel_rfl) ?_ _⟩
   clear hK' K' hcw7
   by_cases h4 : (endM (exch (lawsD xs) k) x).1 = 0
   case neg =>
    have HM : Hid (r = (0, false, 11)) := by show r = _; rw [HR.out]; exact mat_of_fail HC0.out HKL.out (.inr fun q => h4 (q x HMEM.out))
    have h6 : fa = (11, []) := by rw [HFA.out, HD2.out, if_pos (by simpa using h4)]
    rw [h6]
    clear h4
    go_wp2
    go_ret3
    exact ⟨by rw [HM.out]; rfl, hB7⟩
   have h6 : fa = (0, (endM (exch (lawsD xs) k) x).2) := by rw [HFA.out, HD2.out, if_neg (by simpa using h4)]
   obtain ⟨y2, hy2⟩ : ∃ y, y = (endM (exch (lawsD xs) k) x).2 := ⟨_, rfl⟩
   rw [← hy2] at h6
   have HY2 := hI hy2
   have HOK2 := hI h4
   subst h6
   clear h4 hy2
   have HOKN : Hid (∀ m x, m < j + 1 → wss[m]? = some x → (endM (lawsD xs) x).1 = 0 ∧ (endM (exch (lawsD xs) k) x).1 = 0) := by
    show ∀ m x, _
    intro m z hm hz
    rcases Nat.lt_or_ge m j with q | q
    ·exact hok.out m z q hz
    ·obtain rfl : m = j := by omega
     rw [HXK.out] at hz
     obtain rfl := Option.some.inj hz
     exact ⟨HOK1.out, HOK2.out⟩
   have HFN : Hid ((List.range (j + 1)).find? (fun m => !decide ((endsL (lawsD xs) wss).getD m [] = (endsL (exch (lawsD xs) k) wss).getD m [])) = nextF f (!decide (y1 = y2)) j) := by
    show _ = _
    rw [find_next, ← hf.out, ends_get HXK.out, ends_get HXK.out, ← HY1.out, ← HY2.out]
   cases f with
   | some m =>
    have hm := hfb m rfl
    have hm0 : ¬ ((m : Int) < 0) := by omega
    rw [show optI (some m) = (m : Int) from rfl]
    clear hfb
    go_wp2
    go_roundw
    case rel => exact ⟨j + 1, some m, rfl, by go_num, by omega, (fun m' h => by cases h; omega), (by show _ = _; rw [HFN.out]; rfl), HOKN.out, hB7⟩
    case measure => simp [intOf]; omega
   | none =>
    rw [show optI none = -1 from rfl]
    clear hfb
    go_wp2_with fail
    refine (rEqual_c A5 A7 n5 n7 c5 c7 y1 y2 w7 HW5'.out HW7.out).mono ?_
    rintro e w8 ⟨rfl, hb8⟩
    have hB8 := hB7.trans (hb8.mono hB7.size)
    clear hb8
    by_cases hy : y1 = y2
    ·have hd : decide (y1 = y2) = true := by simpa using hy
     rw [hd]
     clear hy
     go_wp2
     go_roundw
     case rel => exact ⟨j + 1, none, rfl, by go_num, by omega, (fun m' h => by cases h), (by show _ = _; rw [HFN.out, hd]; rfl), HOKN.out, hB8⟩
     case measure => simp [intOf]; omega
    ·have hd : decide (y1 = y2) = false := by simpa using hy
     rw [hd]
     clear hy
     go_wp2
     go_roundw
     case rel => exact ⟨j + 1, some j, rfl, by go_num, by omega, (fun m' h => by cases h; omega), (by show _ = _; rw [HFN.out, hd]; rfl), HOKN.out, hB8⟩
     case measure => simp [intOf]; omega
  ·obtain rfl : j = n' := by omega
   have HM : Hid (r = diffR f) := by
    show r = _
    rw [HR.out, mat_of_words HC0.out HKL.out (fun x hx => ?_) (fun x hx => ?_), hf.out]
    ·unfold diffN; rw [show (endsL (lawsD xs) wss).length = j by unfold endsL; rw [List.length_map]; exact HW.out.len]
    ·obtain ⟨m, hm, rfl⟩ := List.getElem_of_mem hx
     exact (hok.out m _ (by rw [← HW.out.len]; exact hm) (List.getElem?_eq_getElem hm)).1
    ·obtain ⟨m, hm, rfl⟩ := List.getElem_of_mem hx
     exact (hok.out m _ (by rw [← HW.out.len]; exact hm) (List.getElem?_eq_getElem hm)).2
   cases f with
   | some m =>
    have hm0 : (0 : Int) ≤ (m : Int) := by omega
    rw [show optI (some m) = (m : Int) from rfl]
    clear hfb
    go_wp2
    go_ret3
    exact ⟨by rw [HM.out]; rfl, hB⟩
   | none =>
    rw [show optI none = -1 from rfl]
    clear hfb
    go_wp2
    go_ret3
    exact ⟨by rw [HM.out]; rfl, hB⟩
end Go.Proofs.YtgfjlflbhipliaaGreatDoor

/-
  ablautlaw10.DeriveSums is true.
-/
import Derived.Test.YtfgilinjaldhhaaGreatDoorXS4
import Derived.Test.YtfgilinjaldhhaaGreatDoorG21
set_option linter.unusedVariables false
set_option linter.unusedSimpArgs false
namespace Go.Proofs.YtfgilinjaldhhaaGreatDoor
open Go.RowKit Go.Shelf


theorem IsWords.shape {w : World} {A : Option Addr} {n c : Nat} {xss : List (List Snd)} (h : IsWords w A n c xss) (hn : 0 < n) : ∃ b off, A = some ⟨b, off, none⟩ ∧ b < w.heap.size := by
  obtain ⟨b, off, _, _, _, _, hA, hb, _⟩ := h.at_ hn
  exact ⟨b, off, hA, hb⟩
theorem IsWords.cell_at {w : World} {b off n c k : Nat} {xss : List (List Snd)} (h : IsWords w (some ⟨b, off, none⟩) n c xss) (hk : k < n) :
    ∃ A' n' c' xs, w.cell? ⟨b, off + k, none⟩ = some (.slice A' n' c') ∧ xss[k]? = some xs ∧ IsWord w A' n' c' xs := by
  obtain ⟨b', off', A', n', c', xs, hA, _, h1, h2, h3⟩ := h.at_ hk
  obtain ⟨rfl, rfl⟩ : b = b' ∧ off = off' := by simpa using hA
  exact ⟨A', n', c', xs, h1, h2, h3⟩

theorem yields_lawM {ops : Array Oper} {S : World → Prop} {op : Oper} {ac : Act} (hw : Region.wanted op (yielded ops ac.tmps) = true) (x : Operand) (ho : op.op = .load 49 x)
    (b o : Nat) (s : LawR) (hx : ac.eval x = .pointer (some ⟨b, o, none⟩)) (hS : ∀ w, S w → w.rangeAt b o s.cells) : YieldsIf Tryz.prog ops S op (lawV s.l s.a) ac :=
  .inl ⟨hw, fun w hw' => by
    unfold execOp
    simp only [ho, hx, Instr.loadAt, Instr.sureAddr, Sem.run_bind, Sem.run_pure, Result.andThen_ok, run_load_lawM (hS w hw')]⟩
set_option maxRecDepth 100000 in
set_option maxHeartbeats 4000000 in
theorem deriveSums_c (A : Option Addr) (n c : Nat) (xs : List LawR) (Aw : Option Addr) (nw cw : Nat) (ws : List Snd) (a : Int) (ha0 : 0 ≤ a) (ha1 : a ≤ 255) (w : World) (hx : IsLaws w A n c xs) (hw : IsWord w Aw nw cw ws) (hT : TabOK w) :
    Calls Tryz.prog 6 #[.slice A n c, .slice Aw nw cw, .int .u8 a] w (RetTrue w) := by
  have hmx := hx.max
  have hmw := hw.max
  have HX := Lib.hid hx; clear hx
  have HW := Lib.hid hw; clear hw
  have HT := Lib.hid hT; clear hT
  go_enter Tryz.func6, Tryz.ntmps6
  go_wp2_with fail
  refine (light_c A n c xs w HX.out).mono ?_
  rintro e w1 ⟨⟨b1, rfl⟩, hB1⟩
  have HB1 := Lib.hid hB1; clear hB1
  cases b1
  · go_wp2_with fail
    refine (works_c _ (HT.out.below HB1.out (Nat.le_refl _))).mono ?_
    rintro e w2 ⟨rfl, hbw⟩
    go_wp2
    go_ret
    exact ⟨rfl, Below.trans HB1.out (hbw.mono (Below.size HB1.out))⟩
  by_cases h100 : 100 < nw
  · go_wp2_with fail
    refine (works_c _ (HT.out.below HB1.out (Nat.le_refl _))).mono ?_
    rintro e w2 ⟨rfl, hbw⟩
    go_wp2
    go_ret
    exact ⟨rfl, Below.trans HB1.out (hbw.mono (Below.size HB1.out))⟩
  go_wp2_with fail
  refine (dCheck_c A n c xs w1 (HX.out.below HB1.out (Nat.le_refl _))).mono ?_
  rintro e w2 ⟨rfl, hB2'⟩
  have hB2 := HB1.out.trans (hB2'.mono HB1.out.size)
  have HB2 := Lib.hid hB2; clear hB2 hB2' HB1
  obtain ⟨e1, he1⟩ : ∃ e1, e1 = lawsE (lawsD xs) := ⟨_, rfl⟩
  rw [← he1]
  have HE1 := Lib.hid he1; clear he1
  by_cases h1 : e1 = 0
  case neg =>
    have h1' : (e1 != 0) = true := by simpa using h1
    go_wp2_with fail
    refine (works_c _ (HT.out.below HB2.out (Nat.le_refl _))).mono ?_
    rintro e w3 ⟨rfl, hbw⟩
    go_wp2
    go_ret
    exact ⟨rfl, Below.trans HB2.out (hbw.mono (Below.size HB2.out))⟩
  subst h1
  go_wp2_with fail
  refine (wCheck_c Aw nw cw ws w2 (HW.out.below HB2.out (Nat.le_refl _))).mono ?_
  rintro e w3 ⟨rfl, hB3'⟩
  have hB3 := HB2.out.trans (hB3'.mono HB2.out.size)
  have HB3 := Lib.hid hB3; clear hB3 hB3' HB2
  obtain ⟨e2, he2⟩ : ∃ e2, e2 = wcheck ws := ⟨_, rfl⟩
  rw [← he2]
  have HE2 := Lib.hid he2; clear he2
  by_cases h2 : e2 = 0
  case neg =>
    have h2' : (e2 != 0) = true := by simpa using h2
    go_wp2_with fail
    refine (works_c _ (HT.out.below HB3.out (Nat.le_refl _))).mono ?_
    rintro e w4 ⟨rfl, hbw⟩
    go_wp2
    go_ret
    exact ⟨rfl, Below.trans HB3.out (hbw.mono (Below.size HB3.out))⟩
  subst h2
  have hn64 : n ≤ 64 := by have h1 := (lawsE_all HE1.out.symm).1; have h2 := HX.out.len; simp only [lawsD, List.length_map] at h1; omega
  obtain ⟨k, hk⟩ : ∃ k : Nat, a % ((n : Int) + 1) = k := ⟨(a % ((n : Int) + 1)).toNat, by have := Int.emod_nonneg a (b := (n : Int) + 1) (by omega); omega⟩
  have hkn : k ≤ n := by have := Int.emod_lt_of_pos a (b := (n : Int) + 1) (by omega); omega
  have HLE : Hid (lawsE (lawsD xs) = 0) := HE1.out.symm
  have HWE : Hid (wcheck ws = 0) := HE2.out.symm
  have HLN : Hid ((lawsD xs).length = n) := by show (lawsD xs).length = n; rw [lawsD, List.length_map]; exact HX.out.len
  clear HE1 HE2 h100
  have HTK : Hid (IsLaws w A k c (xs.take k)) := HX.out.take hkn
  have HTKe : Hid (lawsD (xs.take k) = (lawsD xs).take k) := by show lawsD (xs.take k) = _; simp [lawsD, List.map_take]
  have HDK : Hid (IsLaws w (if c = k then A else A.map (·.add (k * 18))) (n - k) (c - k) (xs.drop k)) := HX.out.drop hkn
  have HDKe : Hid (lawsD (xs.drop k) = (lawsD xs).drop k) := by show lawsD (xs.drop k) = _; simp [lawsD, List.map_drop]
  have HP1 : Hid (partM (lawsD xs) 0 k ws = deriveM ((lawsD xs).take k) ws) := by
    show partM (lawsD xs) 0 k ws = _
    exact (part_ok 0 k HLE.out HWE.out (Nat.zero_le _) (by rw [HLN.out]; exact hkn)).trans (by simp)
  have hk63 : (k : Int) ≤ (c : Int) := by omega
  have hk0 : (0 : Int) ≤ (k : Int) := by omega
  have hkn' : (k : Int) ≤ (n : Int) := by omega
  go_wp2_with fail
  rw [hk]
  clear hk ha0 ha1
  refine (derive_c A n c xs Aw nw cw ws w3 (HX.out.below HB3.out (Nat.le_refl _)) (HW.out.below HB3.out (Nat.le_refl _)) (HT.out.below HB3.out (Nat.le_refl _))).mono ?_
  by_cases hb : (endM ((lawsD xs).take k) ws).1 = 0
  case neg =>
    obtain ⟨q1, q2⟩ := sums_bad k HLE.out HWE.out hb
    rw [q1]
    have HQ2 := Lib.hid q2; clear q1 q2 hb
    rintro e w4 ⟨A4, n4, c4, rfl, hw4, hB4', _⟩
    have hB4 := HB3.out.trans (hB4'.mono HB3.out.size)
    have HB4 := Lib.hid hB4; clear hB4 hB4' HB3
    clear hw4
    go_wp2_with fail
    refine (derive_c A k c (xs.take k) Aw nw cw ws w4 (HTK.out.below HB4.out (Nat.le_refl _)) (HW.out.below HB4.out (Nat.le_refl _)) (HT.out.below HB4.out (Nat.le_refl _))).mono ?_
    rw [HTKe.out, HQ2.out]
    rintro e w5 ⟨A5, n5, c5, rfl, hw5, hB5', _⟩
    have HW5 := Lib.hid hw5; clear hw5
    have hB5 := HB4.out.trans (hB5'.mono HB4.out.size)
    have HB5 := Lib.hid hB5; clear hB5 hB5' HB4
    go_wp2_with fail
    refine (part_c A n c xs 0 k Aw nw cw ws w5 (HX.out.below HB5.out (Nat.le_refl _)) (HW.out.below HB5.out (Nat.le_refl _)) (HT.out.below HB5.out (Nat.le_refl _))).mono ?_
    rw [HP1.out, HQ2.out]
    rintro e w6 ⟨A6, n6, c6, rfl, hw6, hB6', _⟩
    have HW6 := Lib.hid hw6; clear hw6
    have HW5' := Lib.hid (HW5.out.below hB6' (Nat.le_refl _))
    have hB6 := HB5.out.trans (hB6'.mono HB5.out.size)
    have HB6 := Lib.hid hB6; clear hB6 hB6' HB5
    clear HW5
    go_wp2_with fail
    refine (wEqual_c _ _ _ _ _ _ [] [] w6 HW5'.out HW6.out).mono ?_
    rintro e w7 ⟨rfl, hB7'⟩
    have hB7 := HB6.out.trans (hB7'.mono HB6.out.size)
    have HB7 := Lib.hid hB7; clear hB7 hB7' HB6
    rw [show decide (([] : List Snd) = []) = true from rfl]
    go_wp2_with fail
    refine (works_c _ (HT.out.below HB7.out (Nat.le_refl _))).mono ?_
    rintro e w8 ⟨rfl, hbw⟩
    go_wp2
    go_ret
    exact ⟨rfl, Below.trans HB7.out (hbw.mono (Below.size HB7.out))⟩
  obtain ⟨q1, q2, q3⟩ := sums_ok k HLE.out HWE.out hb
  obtain ⟨x1, hx1⟩ : ∃ x1, x1 = (endM ((lawsD xs).take k) ws).2 := ⟨_, rfl⟩
  rw [← hx1] at q1 q2 q3
  have HX1 := Lib.hid hx1; clear hx1
  have hlsk : lawsE ((lawsD xs).drop k) = 0 := lawsE_sub HLE.out (by simp) fun l hl => List.mem_of_mem_drop hl
  obtain ⟨er, y, hy, hfo⟩ : ∃ er y, deriveM (lawsD xs) ws = (er, y) ∧ ((er = 11 ∧ formsE (lawsD xs) ws = (11, [])) ∨ (er = 0 ∧ (endM (lawsD xs) ws).1 = 0 ∧ y = (endM (lawsD xs) ws).2 ∧ formsE (lawsD xs) ws = (0, (formsM (lawsD xs) ws).2))) := by
    by_cases h0 : (endM (lawsD xs) ws).1 = 0
    · exact ⟨0, _, by rw [derive_ok HLE.out HWE.out, if_neg (by simpa using h0)], .inr ⟨rfl, h0, rfl, by rw [forms_ok HLE.out HWE.out, if_neg (by simpa using h0)]⟩⟩
    · exact ⟨11, [], by rw [derive_ok HLE.out HWE.out, if_pos h0], .inl ⟨rfl, by rw [forms_ok HLE.out HWE.out, if_pos h0]⟩⟩
  have HFO := Lib.hid hfo; clear hfo
  rw [hy] at q3
  rw [hy]
  have HQ1 := Lib.hid q1; clear q1
  have HQ2 := Lib.hid q2; clear q2
  have HQ3 := Lib.hid q3.symm; clear q3
  have HP2 : Hid (partM (lawsD xs) k n x1 = (er, y)) := by
    show partM (lawsD xs) k n x1 = _
    rw [part_ok k n HLE.out HQ2.out hkn (by rw [HLN.out]; exact Nat.le_refl _), List.take_of_length_le (by rw [HLN.out]; exact Nat.le_refl _)]
    exact HQ3.out
  clear hy hb hlsk
  rintro e w4 ⟨A4, n4, c4, rfl, hw4, hB4', _⟩
  have HW4 := Lib.hid hw4; clear hw4
  have hB4 := HB3.out.trans (hB4'.mono HB3.out.size)
  have HB4 := Lib.hid hB4; clear hB4 hB4' HB3
  go_wp2_with fail
  refine (derive_c A k c (xs.take k) Aw nw cw ws w4 (HTK.out.below HB4.out (Nat.le_refl _)) (HW.out.below HB4.out (Nat.le_refl _)) (HT.out.below HB4.out (Nat.le_refl _))).mono ?_
  rw [HTKe.out, HQ1.out]
  rintro e w5 ⟨A5, n5, c5, rfl, hw5, hB5', _⟩
  have HW5 := Lib.hid hw5; clear hw5
  have HWn4 := Lib.hid (HW4.out.below hB5' (Nat.le_refl _)); clear HW4
  have HW4 := HWn4; clear HWn4
  have hB5 := HB4.out.trans (hB5'.mono HB4.out.size)
  have HB5 := Lib.hid hB5; clear hB5 hB5' HB4
  go_wp2_with fail
  refine (part_c A n c xs 0 k Aw nw cw ws w5 (HX.out.below HB5.out (Nat.le_refl _)) (HW.out.below HB5.out (Nat.le_refl _)) (HT.out.below HB5.out (Nat.le_refl _))).mono ?_
  rw [HP1.out, HQ1.out]
  rintro e w6 ⟨A6, n6, c6, rfl, hw6, hB6', _⟩
  have HW6 := Lib.hid hw6; clear hw6
  have HWn4 := Lib.hid (HW4.out.below hB6' (Nat.le_refl _)); clear HW4
  have HW4 := HWn4; clear HWn4
  have HWn5 := Lib.hid (HW5.out.below hB6' (Nat.le_refl _)); clear HW5
  have HW5 := HWn5; clear HWn5
  have hB6 := HB5.out.trans (hB6'.mono HB5.out.size)
  have HB6 := Lib.hid hB6; clear hB6 hB6' HB5
  go_wp2_with fail
  refine (wEqual_c _ _ _ _ _ _ x1 x1 w6 HW5.out HW6.out).mono ?_
  rintro e w7 ⟨rfl, hB7'⟩
  clear HW6
  have HWn4 := Lib.hid (HW4.out.below hB7' (Nat.le_refl _)); clear HW4
  have HW4 := HWn4; clear HWn4
  have HWn5 := Lib.hid (HW5.out.below hB7' (Nat.le_refl _)); clear HW5
  have HW5 := HWn5; clear HWn5
  have hB7 := HB6.out.trans (hB7'.mono HB6.out.size)
  have HB7 := Lib.hid hB7; clear hB7 hB7' HB6
  rw [show decide (x1 = x1) = true from decide_eq_true rfl]
  by_cases hck : c = k
  · have hnk : n = k := by omega
    subst hck
    subst hnk
    have HDK' : Hid (IsLaws w A 0 0 (xs.drop n)) := by have h := HDK.out; rw [if_pos rfl, Nat.sub_self] at h; exact h
    clear HDK
    have HDK := HDK'; clear HDK'
    go_wp2_with fail
    try rw [← hAK]
    try clear hAK
    refine (derive_c _ _ _ (xs.drop n) A5 n5 c5 x1 w7 (HDK.out.below HB7.out (Nat.le_refl _)) HW5.out (HT.out.below HB7.out (Nat.le_refl _))).mono ?_
    rw [HDKe.out, HQ3.out]
    rintro e w8 ⟨A8, n8, c8, rfl, hw8, hB8', _⟩
    have HW8 := Lib.hid hw8; clear hw8
    have HWn4 := Lib.hid (HW4.out.below hB8' (Nat.le_refl _)); clear HW4
    have HW4 := HWn4; clear HWn4
    have HWn5 := Lib.hid (HW5.out.below hB8' (Nat.le_refl _)); clear HW5
    have HW5 := HWn5; clear HWn5
    have hB8 := HB7.out.trans (hB8'.mono HB7.out.size)
    have HB8 := Lib.hid hB8; clear hB8 hB8' HB7
    go_wp2_with fail
    refine (part_c A n _ xs n n A5 n5 c5 x1 w8 (HX.out.below HB8.out (Nat.le_refl _)) HW5.out (HT.out.below HB8.out (Nat.le_refl _))).mono ?_
    rw [HP2.out]
    rintro e w9 ⟨A9, n9, c9, rfl, hw9, hB9', _⟩
    have HW9 := Lib.hid hw9; clear hw9
    have HWn4 := Lib.hid (HW4.out.below hB9' (Nat.le_refl _)); clear HW4
    have HW4 := HWn4; clear HWn4
    have HWn5 := Lib.hid (HW5.out.below hB9' (Nat.le_refl _)); clear HW5
    have HW5 := HWn5; clear HWn5
    have HWn8 := Lib.hid (HW8.out.below hB9' (Nat.le_refl _)); clear HW8
    have HW8 := HWn8; clear HWn8
    have hB9 := HB8.out.trans (hB9'.mono HB8.out.size)
    have HB9 := Lib.hid hB9; clear hB9 hB9' HB8
    have her1 : (er != er) = false := by simp
    go_wp2_with fail
    refine (wEqual_c _ _ _ _ _ _ y y w9 HW4.out HW8.out).mono ?_
    rintro e w10 ⟨rfl, hB10'⟩
    have HWn4 := Lib.hid (HW4.out.below hB10' (Nat.le_refl _)); clear HW4
    have HW4 := HWn4; clear HWn4
    have HWn5 := Lib.hid (HW5.out.below hB10' (Nat.le_refl _)); clear HW5
    have HW5 := HWn5; clear HWn5
    have HWn8 := Lib.hid (HW8.out.below hB10' (Nat.le_refl _)); clear HW8
    have HW8 := HWn8; clear HWn8
    have HWn9 := Lib.hid (HW9.out.below hB10' (Nat.le_refl _)); clear HW9
    have HW9 := HWn9; clear HWn9
    have hB10 := HB9.out.trans (hB10'.mono HB9.out.size)
    have HB10 := Lib.hid hB10; clear hB10 hB10' HB9
    rw [show decide (y = y) = true from decide_eq_true rfl]
    go_wp2_with fail
    refine (wEqual_c _ _ _ _ _ _ y y w10 HW8.out HW9.out).mono ?_
    rintro e w11 ⟨rfl, hB11'⟩
    clear HW8 HW9
    have HWn4 := Lib.hid (HW4.out.below hB11' (Nat.le_refl _)); clear HW4
    have HW4 := HWn4; clear HWn4
    have HWn5 := Lib.hid (HW5.out.below hB11' (Nat.le_refl _)); clear HW5
    have HW5 := HWn5; clear HWn5
    have hB11 := HB10.out.trans (hB11'.mono HB10.out.size)
    have HB11 := Lib.hid hB11; clear hB11 hB11' HB10
    rw [show decide (y = y) = true from decide_eq_true rfl]
    go_wp2_with fail
    refine (forms_all A n _ xs Aw nw cw ws w11 (HX.out.below HB11.out (Nat.le_refl _)) (HW.out.below HB11.out (Nat.le_refl _)) (HT.out.below HB11.out (Nat.le_refl _))).mono ?_
    rcases HFO.out with ⟨rfl, hfo⟩ | ⟨rfl, hee, hye, hfo⟩
    · rw [hfo]
      clear hfo HFO
      rintro e w12 ⟨A12, n12, c12, rfl, hw12, hB12'⟩
      obtain rfl : n12 = 0 := hw12.len.symm
      clear hw12 HW4 HW5
      have hB12 := HB11.out.trans (hB12'.mono HB11.out.size)
      have HB12 := Lib.hid hB12; clear hB12 hB12' HB11
      go_wp2_with fail
      refine (works_c _ (HT.out.below HB12.out (Nat.le_refl _))).mono ?_
      rintro e w13 ⟨rfl, hbw⟩
      go_wp2
      go_ret
      exact ⟨rfl, Below.trans HB12.out (hbw.mono (Below.size HB12.out))⟩
    rw [hfo]
    have HEE := Lib.hid hee; clear hee
    have HYE := Lib.hid hye; clear hye
    clear hfo HFO
    rintro e w12 ⟨A12, n12, c12, rfl, hw12, hB12'⟩
    obtain rfl : n12 = n + 1 := by have h1 := hw12.len; have h2 := formsM_full _ _ ((forms_end _ _).1.trans HEE.out); have h3 := HLN.out; dsimp only at h1; omega
    have HW12 := Lib.hid hw12; clear hw12
    have HWn4 := Lib.hid (HW4.out.below hB12' (Nat.le_refl _)); clear HW4
    have HW4 := HWn4; clear HWn4
    have HWn5 := Lib.hid (HW5.out.below hB12' (Nat.le_refl _)); clear HW5
    have HW5 := HWn5; clear HWn5
    have hB12 := HB11.out.trans (hB12'.mono HB11.out.size)
    have HB12 := Lib.hid hB12; clear hB12 hB12' HB11
    obtain ⟨b, off, rfl, hb12⟩ := HW12.out.shape (Nat.succ_pos n)
    obtain ⟨Al0, nl0, cl0, l0, hc0, hl0, hwl0⟩ := HW12.out.cell_at (k := 0) (Nat.succ_pos n)
    obtain ⟨Alk, nlk, clk, lk, hck, hlk, hwlk⟩ := HW12.out.cell_at (k := n) (by omega)
    obtain ⟨Aln, nln, cln, ln, hcn, hln, hwln⟩ := HW12.out.cell_at (k := n) (by omega)
    obtain rfl : l0 = ws := by
      have h1 := forms_at (lawsD xs) ws 0 HEE.out (Nat.zero_le _)
      dsimp only at hl0; rw [h1] at hl0; exact (Option.some.inj hl0).symm
    obtain rfl : lk = x1 := by
      have h1 := forms_at (lawsD xs) l0 n HEE.out (by rw [HLN.out]; exact hkn)
      dsimp only at hlk; rw [h1, ← HX1.out] at hlk; exact (Option.some.inj hlk).symm
    obtain rfl : ln = y := by
      have h1 := forms_at (lawsD xs) l0 n HEE.out (by rw [HLN.out]; exact Nat.le_refl _)
      dsimp only at hln; rw [h1, List.take_of_length_le (by rw [HLN.out]; exact Nat.le_refl _), ← HYE.out] at hln; exact (Option.some.inj hln).symm
    have HWl0 := Lib.hid hwl0; clear hwl0 hl0
    have HWlk := Lib.hid hwlk; clear hwlk hlk
    have HWln := Lib.hid hwln; clear hwln hln
    have e0 : ¬ ((n : Int) + 1 ≤ 0) := by omega
    have e1 : (n : Int) < (n : Int) + 1 := by omega
    have e2 : (n : Int) < (n : Int) + 1 := by omega
    rw [Nat.add_zero] at hc0
    have HCK := Lib.hid hck; clear hck
    have HCN := Lib.hid hcn; clear hcn
    go_wp2_with fail
    refine (wEqual_c _ _ _ _ _ _ _ _ w12 HWl0.out (HW.out.below HB12.out (Nat.le_refl _))).mono ?_
    rintro e w13 ⟨rfl, hB13'⟩
    rw [show decide (l0 = l0) = true from decide_eq_true rfl]
    have HCKn := Lib.hid ((hB13'.cell (p := ⟨b, off + n, none⟩) hb12).trans HCK.out); clear HCK
    have HCNn := Lib.hid ((hB13'.cell (p := ⟨b, off + n, none⟩) hb12).trans HCN.out); clear HCN
    have hb13 : b < w13.heap.size := Nat.lt_of_lt_of_le hb12 hB13'.size
    clear hc0 HWl0 hb12
    have HWnlk := Lib.hid (HWlk.out.below hB13' (Nat.le_refl _)); clear HWlk
    have HWlk := HWnlk; clear HWnlk
    have HWnln := Lib.hid (HWln.out.below hB13' (Nat.le_refl _)); clear HWln
    have HWln := HWnln; clear HWnln
    have HWn4 := Lib.hid (HW4.out.below hB13' (Nat.le_refl _)); clear HW4
    have HW4 := HWn4; clear HWn4
    have HWn5 := Lib.hid (HW5.out.below hB13' (Nat.le_refl _)); clear HW5
    have HW5 := HWn5; clear HWn5
    have HWn12 := Lib.hid (HW12.out.below hB13' (Nat.le_refl _)); clear HW12
    have HW12 := HWn12; clear HWn12
    have hB13 := HB12.out.trans (hB13'.mono HB12.out.size)
    have HB13 := Lib.hid hB13; clear hB13 hB13' HB12
    have hck := HCKn.out
    go_wp2_with fail
    refine (wEqual_c _ _ _ _ _ _ _ _ w13 HWlk.out HW5.out).mono ?_
    rintro e w14 ⟨rfl, hB14'⟩
    rw [show decide (lk = lk) = true from decide_eq_true rfl]
    have HCNm := Lib.hid ((hB14'.cell (p := ⟨b, off + n, none⟩) hb13).trans HCNn.out); clear HCNn
    have hb14 : b < w14.heap.size := Nat.lt_of_lt_of_le hb13 hB14'.size
    clear hck HCKn HWlk HW5 hb13
    have HWnln := Lib.hid (HWln.out.below hB14' (Nat.le_refl _)); clear HWln
    have HWln := HWnln; clear HWnln
    have HWn4 := Lib.hid (HW4.out.below hB14' (Nat.le_refl _)); clear HW4
    have HW4 := HWn4; clear HWn4
    have HWn12 := Lib.hid (HW12.out.below hB14' (Nat.le_refl _)); clear HW12
    have HW12 := HWn12; clear HWn12
    have hB14 := HB13.out.trans (hB14'.mono HB13.out.size)
    have HB14 := Lib.hid hB14; clear hB14 hB14' HB13
    have hcn := HCNm.out
    go_wp2_with fail
    refine (wEqual_c _ _ _ _ _ _ _ _ w14 HWln.out HW4.out).mono ?_
    rintro e w15 ⟨rfl, hB15'⟩
    rw [show decide (ln = ln) = true from decide_eq_true rfl]
    have hb12' : b < w15.heap.size := Nat.lt_of_lt_of_le hb14 hB15'.size
    clear hcn HCNm HWln HW4 hb14
    have HWn12 := Lib.hid (HW12.out.below hB15' (Nat.le_refl _)); clear HW12
    have HW12 := HWn12; clear HWn12
    have hB15 := HB14.out.trans (hB15'.mono HB14.out.size)
    have HB15 := Lib.hid hB15; clear hB15 hB15' HB14
    go_wp2
    have hb15 := hb12'
    go_loopw [20] (fun i wr => ∃ j : Nat, j ≤ n ∧ i = .int .i64 j ∧ Below w15.heap.size w15 wr) (fun i _ => n - (intOf i).toNat)
    case atStart => exact ⟨0, Nat.zero_le _, rfl, Below.refl _ _⟩
    case round =>
      obtain ⟨j, hj, rfl, hB⟩ := hrel
      have hBs := hB.size
      have hBB := HB15.out.trans (hB.mono HB15.out.size)
      by_cases hlt : j < n
      · obtain ⟨x, hx⟩ := HX.out.get hlt
        obtain ⟨bl, ol, hAl, hbl, hrl⟩ := (HX.out.below hBB (Nat.le_refl _)).at_ hx
        have HLA := Lib.hid ((HX.out.below hBB (Nat.le_refl _)).2 x (List.mem_of_getElem? hx))
        obtain ⟨Aj, nj, cj, xj, hcj, hxj, hwj⟩ := (HW12.out.below hB (Nat.le_refl _)).cell_at (k := j) (by omega)
        obtain ⟨Am, nm, cm, xm, hcm, hxm, hwm⟩ := (HW12.out.below hB (Nat.le_refl _)).cell_at (k := j + 1) (by omega)
        have hap : applyM x.l xj = (0, xm) := by
          have h1 := forms_at (lawsD xs) l0 j HEE.out (by rw [HLN.out]; omega)
          have h2 := forms_at (lawsD xs) l0 (j + 1) HEE.out (by rw [HLN.out]; omega)
          have h3 : (lawsD xs)[j]? = some x.l := by unfold lawsD; rw [List.getElem?_map, hx]; rfl
          rw [h1] at hxj; rw [h2] at hxm
          rw [← Option.some.inj hxj, ← Option.some.inj hxm]
          exact end_step HEE.out h3
        have HAP := Lib.hid hap; clear hap hxj hxm
        have HWj := Lib.hid hwj; clear hwj
        have HWm := Lib.hid hwm; clear hwm
        have HCM := Lib.hid hcm; clear hcm
        have HTr := Lib.hid (HT.out.below hBB (Nat.le_refl _))
        have HRL := Lib.hid hrl; clear hrl
        have hbr : b < wr.heap.size := Nat.lt_of_lt_of_le hb15 hBs
        subst hAl
        have hj1 : (j : Int) < (n : Int) := by omega
        have hj2 : (j : Int) < (n : Int) + 1 := by omega
        have hj3 : (j : Int) + 1 < (n : Int) + 1 := by omega
        have hjw : IntKind.i64.wrap ((j : Int) + 1) = (j : Int) + 1 := IntWalk.i64_in _ (by omega)
        have hj0 : (0 : Int) ≤ (j : Int) + 1 := by omega
        clear hx
        go_wp2
        refine plain_region (fun W' => W'.rangeAt bl (ol + j * 18) x.cells ∧ W'.cell? ⟨b, off + j, none⟩ = some (.slice Aj nj cj)) (by kernel_rfl) ⟨HRL.out, hcj⟩ (fun hHeld => ?_)
        (refine' anyT_take (i := 0) (v := _) rfl (by kernel_rfl) (by kernel_rfl) (by kernel_rfl) (by kernel_rfl) (fun _ _ _ h => h) (Or.inl ⟨by rfl, fun w' hSw => by (try dsimp only at hSw); go_split_ands; go_simp; (try with_reducible rfl)⟩) (by assumption) ?_; (try simp only [Act.put, List.getElem_toArray, List.getElem_cons_zero, List.getElem_cons_succ, List.setIfInBounds_toArray, List.set_cons_zero, List.set_cons_succ])); (refine' anyT_take (i := 1) (v := _) rfl (by kernel_rfl) (by kernel_rfl) (by kernel_rfl) (by kernel_rfl) (fun _ _ _ h => h) (Or.inl ⟨by rfl, fun w' hSw => by (try dsimp only at hSw); go_split_ands; go_simp; (try with_reducible rfl)⟩) (by assumption) ?_; (try simp only [Act.put, List.getElem_toArray, List.getElem_cons_zero, List.getElem_cons_succ, List.setIfInBounds_toArray, List.set_cons_zero, List.set_cons_succ])); (refine' anyT_take (i := 2) (v := _) rfl (by kernel_rfl) (by kernel_rfl) (by kernel_rfl) (by kernel_rfl) (fun _ _ _ h => h) (Or.inl ⟨by rfl, fun w' hSw => by (try dsimp only at hSw); go_split_ands; go_simp; (try with_reducible rfl)⟩) (by assumption) ?_; (try simp only [Act.put, List.getElem_toArray, List.getElem_cons_zero, List.getElem_cons_succ, List.setIfInBounds_toArray, List.set_cons_zero, List.set_cons_succ]))
        (refine' anyT_take (i := 3) (v := lawV x.l x.a) rfl (by kernel_rfl) (by kernel_rfl) (by kernel_rfl) (by kernel_rfl) (fun _ _ _ h => h) (yields_lawM (by rfl) (.tmp 193) rfl bl (ol + j * 18) x (by rfl) (fun _ h => h.1)) (by assumption) ?_; (try simp only [Act.put, List.getElem_toArray, List.getElem_cons_zero, List.getElem_cons_succ, List.setIfInBounds_toArray, List.set_cons_zero, List.set_cons_succ]))
        (refine' anyT_take (i := 4) (v := _) rfl (by kernel_rfl) (by kernel_rfl) (by kernel_rfl) (by kernel_rfl) (fun _ _ _ h => h) (Or.inl ⟨by rfl, fun w' hSw => by (try dsimp only at hSw); go_split_ands; go_simp; (try with_reducible rfl)⟩) (by assumption) ?_; (try simp only [Act.put, List.getElem_toArray, List.getElem_cons_zero, List.getElem_cons_succ, List.setIfInBounds_toArray, List.set_cons_zero, List.set_cons_succ])); (refine' anyT_take (i := 5) (v := _) rfl (by kernel_rfl) (by kernel_rfl) (by kernel_rfl) (by kernel_rfl) (fun _ _ _ h => h) (Or.inl ⟨by rfl, fun w' hSw => by (try dsimp only at hSw); go_split_ands; go_simp; (try with_reducible rfl)⟩) (by assumption) ?_; (try simp only [Act.put, List.getElem_toArray, List.getElem_cons_zero, List.getElem_cons_succ, List.setIfInBounds_toArray, List.set_cons_zero, List.set_cons_succ])); (refine' anyT_take (i := 6) (v := _) rfl (by kernel_rfl) (by kernel_rfl) (by kernel_rfl) (by kernel_rfl) (fun _ _ _ h => h) (Or.inl ⟨by rfl, fun w' hSw => by (try dsimp only at hSw); go_split_ands; go_simp; (try with_reducible rfl)⟩) (by assumption) ?_; (try simp only [Act.put, List.getElem_toArray, List.getElem_cons_zero, List.getElem_cons_succ, List.setIfInBounds_toArray, List.set_cons_zero, List.set_cons_succ])); (refine' anyT_take (i := 7) (v := _) rfl (by kernel_rfl) (by kernel_rfl) (by kernel_rfl) (by kernel_rfl) (fun _ _ _ h => h) (Or.inl ⟨by rfl, fun w' hSw => by (try dsimp only at hSw); go_split_ands; go_simp; (try with_reducible rfl)⟩) (by assumption) ?_; (try simp only [Act.put, List.getElem_toArray, List.getElem_cons_zero, List.getElem_cons_succ, List.setIfInBounds_toArray, List.set_cons_zero, List.set_cons_succ]))
        clear hcj
        (refine anyT_step (i := 8) (by kernel_rfl) rfl (fun K' hK' => ?_); simp only [List.getElem_toArray, List.getElem_cons_zero, List.getElem_cons_succ]; go_simp)
        refine (apply_c x.l x.a Aj nj cj xj _ (HLA.out.below (B := wr.heap.size) ((Below.refl wr.heap.size wr).drew) (Nat.le_refl _)) (HWj.out.below (B := wr.heap.size) ((Below.refl wr.heap.size wr).drew) (Nat.le_refl _)) (HTr.out.below (B := wr.heap.size) ((Below.refl wr.heap.size wr).drew) (Nat.le_refl _))).mono ?_
        rw [HAP.out]
        rintro e w16 ⟨A16, n16, c16, rfl, hw16, hb16', _⟩
        have hb16 : Below wr.heap.size wr w16 := (Below.refl wr.heap.size wr).drew.trans hb16'
        obtain ⟨q1, q2⟩ := hHeld
        have hS16 : w16.rangeAt bl (ol + j * 18) x.cells ∧ w16.cell? ⟨b, off + j, none⟩ = some (.slice Aj nj cj) := ⟨fun i v hv => (hb16.cell (p := ⟨bl, _, none⟩) (by assumption)).trans (q1 i v hv), (hb16.cell (p := ⟨b, off + j, none⟩) (by assumption)).trans q2⟩
        refine hK' _ _ ⟨.inr hS16, fun _ => ?_⟩
        clear hK' K' hb16' q1 q2
        have HW16 := Lib.hid hw16; clear hw16
        have hcm := (hb16.cell (p := ⟨b, off + (j + 1), none⟩) hbr).trans HCM.out
        have HWm' := Lib.hid (HWm.out.below hb16 (Nat.le_refl _))
        have hB16 : Below w15.heap.size w15 w16 := hB.trans (hb16.mono hBs)
        have hB16s := hB16.size
        clear hb16 HWm HLA HWj HTr HRL HCM
        (try simp only [Act.put, List.getElem_toArray, List.getElem_cons_zero, List.getElem_cons_succ, List.setIfInBounds_toArray, List.set_cons_zero, List.set_cons_succ])
        (refine' anyT_take (i := 9) (v := _) rfl (by kernel_rfl) (by kernel_rfl) (by kernel_rfl) (by kernel_rfl) (fun _ _ _ h => h) (Or.inl ⟨by rfl, fun w' hSw => by (try dsimp only at hSw); go_split_ands; go_simp; (try with_reducible rfl)⟩) (by assumption) ?_; (try simp only [Act.put, List.getElem_toArray, List.getElem_cons_zero, List.getElem_cons_succ, List.setIfInBounds_toArray, List.set_cons_zero, List.set_cons_succ])); (refine' anyT_take (i := 10) (v := _) rfl (by kernel_rfl) (by kernel_rfl) (by kernel_rfl) (by kernel_rfl) (fun _ _ _ h => h) (Or.inl ⟨by rfl, fun w' hSw => by (try dsimp only at hSw); go_split_ands; go_simp; (try with_reducible rfl)⟩) (by assumption) ?_; (try simp only [Act.put, List.getElem_toArray, List.getElem_cons_zero, List.getElem_cons_succ, List.setIfInBounds_toArray, List.set_cons_zero, List.set_cons_succ])); (refine' anyT_take (i := 11) (v := _) rfl (by kernel_rfl) (by kernel_rfl) (by kernel_rfl) (by kernel_rfl) (fun _ _ _ h => h) (Or.inl ⟨by rfl, fun w' hSw => by (try dsimp only at hSw); go_split_ands; go_simp; (try with_reducible rfl)⟩) (by assumption) ?_; (try simp only [Act.put, List.getElem_toArray, List.getElem_cons_zero, List.getElem_cons_succ, List.setIfInBounds_toArray, List.set_cons_zero, List.set_cons_succ])); (refine' anyT_take (i := 12) (v := _) rfl (by kernel_rfl) (by kernel_rfl) (by kernel_rfl) (by kernel_rfl) (fun _ _ _ h => h) (Or.inl ⟨by rfl, fun w' hSw => by (try dsimp only at hSw); go_split_ands; go_simp; (try with_reducible rfl)⟩) (by assumption) ?_; (try simp only [Act.put, List.getElem_toArray, List.getElem_cons_zero, List.getElem_cons_succ, List.setIfInBounds_toArray, List.set_cons_zero, List.set_cons_succ]))
        (refine anyT_step (i := 13) (by kernel_rfl) rfl (fun K' hK' => ?_); simp only [List.getElem_toArray, List.getElem_cons_zero, List.getElem_cons_succ]; go_simp)
        refine hK' _ _ ⟨.inl (by kernel_rfl), fun _ => anyT_done (by kernel_rfl) ?_ _⟩
        clear hK' K'
        go_wp2_with fail
        refine (wEqual_c _ _ _ _ _ _ _ _ w16 HW16.out HWm'.out).mono ?_
        rintro e w17 ⟨rfl, hB17'⟩
        rw [show decide (xm = xm) = true from decide_eq_true rfl]
        have hB17 : Below w15.heap.size w15 w17 := hB16.trans (hB17'.mono hB16s)
        clear hB17' hcm
        go_wp2
        go_roundw
        case rel => exact ⟨j + 1, by omega, by go_num, hB17⟩
        case measure => simp [intOf]; omega
      · obtain rfl : j = n := by omega
        have HBZ := Lib.hid hBB
        clear hBB hB
        go_wp2_with fail
        refine (works_c _ (HT.out.below HBZ.out (Nat.le_refl _))).mono ?_
        rintro e w16 ⟨rfl, hbw⟩
        go_wp2
        go_ret
        exact ⟨rfl, Below.trans HBZ.out (hbw.mono (Below.size HBZ.out))⟩
  · obtain ⟨AK, hAK⟩ : ∃ AK, AK = A.map (·.add (k * 18)) := ⟨_, rfl⟩
    have HDK' : Hid (IsLaws w AK (n - k) (c - k) (xs.drop k)) := by have h := HDK.out; rw [if_neg hck, ← hAK] at h; exact h
    clear HDK
    have HDK := HDK'; clear HDK'
    go_wp2_with fail
    try rw [← hAK]
    try clear hAK
    refine (derive_c _ _ _ (xs.drop k) A5 n5 c5 x1 w7 (HDK.out.below HB7.out (Nat.le_refl _)) HW5.out (HT.out.below HB7.out (Nat.le_refl _))).mono ?_
    rw [HDKe.out, HQ3.out]
    rintro e w8 ⟨A8, n8, c8, rfl, hw8, hB8', _⟩
    have HW8 := Lib.hid hw8; clear hw8
    have HWn4 := Lib.hid (HW4.out.below hB8' (Nat.le_refl _)); clear HW4
    have HW4 := HWn4; clear HWn4
    have HWn5 := Lib.hid (HW5.out.below hB8' (Nat.le_refl _)); clear HW5
    have HW5 := HWn5; clear HWn5
    have hB8 := HB7.out.trans (hB8'.mono HB7.out.size)
    have HB8 := Lib.hid hB8; clear hB8 hB8' HB7
    go_wp2_with fail
    refine (part_c A n _ xs k n A5 n5 c5 x1 w8 (HX.out.below HB8.out (Nat.le_refl _)) HW5.out (HT.out.below HB8.out (Nat.le_refl _))).mono ?_
    rw [HP2.out]
    rintro e w9 ⟨A9, n9, c9, rfl, hw9, hB9', _⟩
    have HW9 := Lib.hid hw9; clear hw9
    have HWn4 := Lib.hid (HW4.out.below hB9' (Nat.le_refl _)); clear HW4
    have HW4 := HWn4; clear HWn4
    have HWn5 := Lib.hid (HW5.out.below hB9' (Nat.le_refl _)); clear HW5
    have HW5 := HWn5; clear HWn5
    have HWn8 := Lib.hid (HW8.out.below hB9' (Nat.le_refl _)); clear HW8
    have HW8 := HWn8; clear HWn8
    have hB9 := HB8.out.trans (hB9'.mono HB8.out.size)
    have HB9 := Lib.hid hB9; clear hB9 hB9' HB8
    have her1 : (er != er) = false := by simp
    go_wp2_with fail
    refine (wEqual_c _ _ _ _ _ _ y y w9 HW4.out HW8.out).mono ?_
    rintro e w10 ⟨rfl, hB10'⟩
    have HWn4 := Lib.hid (HW4.out.below hB10' (Nat.le_refl _)); clear HW4
    have HW4 := HWn4; clear HWn4
    have HWn5 := Lib.hid (HW5.out.below hB10' (Nat.le_refl _)); clear HW5
    have HW5 := HWn5; clear HWn5
    have HWn8 := Lib.hid (HW8.out.below hB10' (Nat.le_refl _)); clear HW8
    have HW8 := HWn8; clear HWn8
    have HWn9 := Lib.hid (HW9.out.below hB10' (Nat.le_refl _)); clear HW9
    have HW9 := HWn9; clear HWn9
    have hB10 := HB9.out.trans (hB10'.mono HB9.out.size)
    have HB10 := Lib.hid hB10; clear hB10 hB10' HB9
    rw [show decide (y = y) = true from decide_eq_true rfl]
    go_wp2_with fail
    refine (wEqual_c _ _ _ _ _ _ y y w10 HW8.out HW9.out).mono ?_
    rintro e w11 ⟨rfl, hB11'⟩
    clear HW8 HW9
    have HWn4 := Lib.hid (HW4.out.below hB11' (Nat.le_refl _)); clear HW4
    have HW4 := HWn4; clear HWn4
    have HWn5 := Lib.hid (HW5.out.below hB11' (Nat.le_refl _)); clear HW5
    have HW5 := HWn5; clear HWn5
    have hB11 := HB10.out.trans (hB11'.mono HB10.out.size)
    have HB11 := Lib.hid hB11; clear hB11 hB11' HB10
    rw [show decide (y = y) = true from decide_eq_true rfl]
    go_wp2_with fail
    refine (forms_all A n _ xs Aw nw cw ws w11 (HX.out.below HB11.out (Nat.le_refl _)) (HW.out.below HB11.out (Nat.le_refl _)) (HT.out.below HB11.out (Nat.le_refl _))).mono ?_
    rcases HFO.out with ⟨rfl, hfo⟩ | ⟨rfl, hee, hye, hfo⟩
    · rw [hfo]
      clear hfo HFO
      rintro e w12 ⟨A12, n12, c12, rfl, hw12, hB12'⟩
      obtain rfl : n12 = 0 := hw12.len.symm
      clear hw12 HW4 HW5
      have hB12 := HB11.out.trans (hB12'.mono HB11.out.size)
      have HB12 := Lib.hid hB12; clear hB12 hB12' HB11
      go_wp2_with fail
      refine (works_c _ (HT.out.below HB12.out (Nat.le_refl _))).mono ?_
      rintro e w13 ⟨rfl, hbw⟩
      go_wp2
      go_ret
      exact ⟨rfl, Below.trans HB12.out (hbw.mono (Below.size HB12.out))⟩
    rw [hfo]
    have HEE := Lib.hid hee; clear hee
    have HYE := Lib.hid hye; clear hye
    clear hfo HFO
    rintro e w12 ⟨A12, n12, c12, rfl, hw12, hB12'⟩
    obtain rfl : n12 = n + 1 := by have h1 := hw12.len; have h2 := formsM_full _ _ ((forms_end _ _).1.trans HEE.out); have h3 := HLN.out; dsimp only at h1; omega
    have HW12 := Lib.hid hw12; clear hw12
    have HWn4 := Lib.hid (HW4.out.below hB12' (Nat.le_refl _)); clear HW4
    have HW4 := HWn4; clear HWn4
    have HWn5 := Lib.hid (HW5.out.below hB12' (Nat.le_refl _)); clear HW5
    have HW5 := HWn5; clear HWn5
    have hB12 := HB11.out.trans (hB12'.mono HB11.out.size)
    have HB12 := Lib.hid hB12; clear hB12 hB12' HB11
    obtain ⟨b, off, rfl, hb12⟩ := HW12.out.shape (Nat.succ_pos n)
    obtain ⟨Al0, nl0, cl0, l0, hc0, hl0, hwl0⟩ := HW12.out.cell_at (k := 0) (Nat.succ_pos n)
    obtain ⟨Alk, nlk, clk, lk, hck, hlk, hwlk⟩ := HW12.out.cell_at (k := k) (by omega)
    obtain ⟨Aln, nln, cln, ln, hcn, hln, hwln⟩ := HW12.out.cell_at (k := n) (by omega)
    obtain rfl : l0 = ws := by
      have h1 := forms_at (lawsD xs) ws 0 HEE.out (Nat.zero_le _)
      dsimp only at hl0; rw [h1] at hl0; exact (Option.some.inj hl0).symm
    obtain rfl : lk = x1 := by
      have h1 := forms_at (lawsD xs) l0 k HEE.out (by rw [HLN.out]; exact hkn)
      dsimp only at hlk; rw [h1, ← HX1.out] at hlk; exact (Option.some.inj hlk).symm
    obtain rfl : ln = y := by
      have h1 := forms_at (lawsD xs) l0 n HEE.out (by rw [HLN.out]; exact Nat.le_refl _)
      dsimp only at hln; rw [h1, List.take_of_length_le (by rw [HLN.out]; exact Nat.le_refl _), ← HYE.out] at hln; exact (Option.some.inj hln).symm
    have HWl0 := Lib.hid hwl0; clear hwl0 hl0
    have HWlk := Lib.hid hwlk; clear hwlk hlk
    have HWln := Lib.hid hwln; clear hwln hln
    have e0 : ¬ ((n : Int) + 1 ≤ 0) := by omega
    have e1 : (k : Int) < (n : Int) + 1 := by omega
    have e2 : (n : Int) < (n : Int) + 1 := by omega
    rw [Nat.add_zero] at hc0
    have HCK := Lib.hid hck; clear hck
    have HCN := Lib.hid hcn; clear hcn
    go_wp2_with fail
    refine (wEqual_c _ _ _ _ _ _ _ _ w12 HWl0.out (HW.out.below HB12.out (Nat.le_refl _))).mono ?_
    rintro e w13 ⟨rfl, hB13'⟩
    rw [show decide (l0 = l0) = true from decide_eq_true rfl]
    have HCKn := Lib.hid ((hB13'.cell (p := ⟨b, off + k, none⟩) hb12).trans HCK.out); clear HCK
    have HCNn := Lib.hid ((hB13'.cell (p := ⟨b, off + n, none⟩) hb12).trans HCN.out); clear HCN
    have hb13 : b < w13.heap.size := Nat.lt_of_lt_of_le hb12 hB13'.size
    clear hc0 HWl0 hb12
    have HWnlk := Lib.hid (HWlk.out.below hB13' (Nat.le_refl _)); clear HWlk
    have HWlk := HWnlk; clear HWnlk
    have HWnln := Lib.hid (HWln.out.below hB13' (Nat.le_refl _)); clear HWln
    have HWln := HWnln; clear HWnln
    have HWn4 := Lib.hid (HW4.out.below hB13' (Nat.le_refl _)); clear HW4
    have HW4 := HWn4; clear HWn4
    have HWn5 := Lib.hid (HW5.out.below hB13' (Nat.le_refl _)); clear HW5
    have HW5 := HWn5; clear HWn5
    have HWn12 := Lib.hid (HW12.out.below hB13' (Nat.le_refl _)); clear HW12
    have HW12 := HWn12; clear HWn12
    have hB13 := HB12.out.trans (hB13'.mono HB12.out.size)
    have HB13 := Lib.hid hB13; clear hB13 hB13' HB12
    have hck := HCKn.out
    go_wp2_with fail
    refine (wEqual_c _ _ _ _ _ _ _ _ w13 HWlk.out HW5.out).mono ?_
    rintro e w14 ⟨rfl, hB14'⟩
    rw [show decide (lk = lk) = true from decide_eq_true rfl]
    have HCNm := Lib.hid ((hB14'.cell (p := ⟨b, off + n, none⟩) hb13).trans HCNn.out); clear HCNn
    have hb14 : b < w14.heap.size := Nat.lt_of_lt_of_le hb13 hB14'.size
    clear hck HCKn HWlk HW5 hb13
    have HWnln := Lib.hid (HWln.out.below hB14' (Nat.le_refl _)); clear HWln
    have HWln := HWnln; clear HWnln
    have HWn4 := Lib.hid (HW4.out.below hB14' (Nat.le_refl _)); clear HW4
    have HW4 := HWn4; clear HWn4
    have HWn12 := Lib.hid (HW12.out.below hB14' (Nat.le_refl _)); clear HW12
    have HW12 := HWn12; clear HWn12
    have hB14 := HB13.out.trans (hB14'.mono HB13.out.size)
    have HB14 := Lib.hid hB14; clear hB14 hB14' HB13
    have hcn := HCNm.out
    go_wp2_with fail
    refine (wEqual_c _ _ _ _ _ _ _ _ w14 HWln.out HW4.out).mono ?_
    rintro e w15 ⟨rfl, hB15'⟩
    rw [show decide (ln = ln) = true from decide_eq_true rfl]
    have hb12' : b < w15.heap.size := Nat.lt_of_lt_of_le hb14 hB15'.size
    clear hcn HCNm HWln HW4 hb14
    have HWn12 := Lib.hid (HW12.out.below hB15' (Nat.le_refl _)); clear HW12
    have HW12 := HWn12; clear HWn12
    have hB15 := HB14.out.trans (hB15'.mono HB14.out.size)
    have HB15 := Lib.hid hB15; clear hB15 hB15' HB14
    go_wp2
    have hb15 := hb12'
    go_loopw [20] (fun i wr => ∃ j : Nat, j ≤ n ∧ i = .int .i64 j ∧ Below w15.heap.size w15 wr) (fun i _ => n - (intOf i).toNat)
    case atStart => exact ⟨0, Nat.zero_le _, rfl, Below.refl _ _⟩
    case round =>
      obtain ⟨j, hj, rfl, hB⟩ := hrel
      have hBs := hB.size
      have hBB := HB15.out.trans (hB.mono HB15.out.size)
      by_cases hlt : j < n
      · obtain ⟨x, hx⟩ := HX.out.get hlt
        obtain ⟨bl, ol, hAl, hbl, hrl⟩ := (HX.out.below hBB (Nat.le_refl _)).at_ hx
        have HLA := Lib.hid ((HX.out.below hBB (Nat.le_refl _)).2 x (List.mem_of_getElem? hx))
        obtain ⟨Aj, nj, cj, xj, hcj, hxj, hwj⟩ := (HW12.out.below hB (Nat.le_refl _)).cell_at (k := j) (by omega)
        obtain ⟨Am, nm, cm, xm, hcm, hxm, hwm⟩ := (HW12.out.below hB (Nat.le_refl _)).cell_at (k := j + 1) (by omega)
        have hap : applyM x.l xj = (0, xm) := by
          have h1 := forms_at (lawsD xs) l0 j HEE.out (by rw [HLN.out]; omega)
          have h2 := forms_at (lawsD xs) l0 (j + 1) HEE.out (by rw [HLN.out]; omega)
          have h3 : (lawsD xs)[j]? = some x.l := by unfold lawsD; rw [List.getElem?_map, hx]; rfl
          rw [h1] at hxj; rw [h2] at hxm
          rw [← Option.some.inj hxj, ← Option.some.inj hxm]
          exact end_step HEE.out h3
        have HAP := Lib.hid hap; clear hap hxj hxm
        have HWj := Lib.hid hwj; clear hwj
        have HWm := Lib.hid hwm; clear hwm
        have HCM := Lib.hid hcm; clear hcm
        have HTr := Lib.hid (HT.out.below hBB (Nat.le_refl _))
        have HRL := Lib.hid hrl; clear hrl
        have hbr : b < wr.heap.size := Nat.lt_of_lt_of_le hb15 hBs
        subst hAl
        have hj1 : (j : Int) < (n : Int) := by omega
        have hj2 : (j : Int) < (n : Int) + 1 := by omega
        have hj3 : (j : Int) + 1 < (n : Int) + 1 := by omega
        have hjw : IntKind.i64.wrap ((j : Int) + 1) = (j : Int) + 1 := IntWalk.i64_in _ (by omega)
        have hj0 : (0 : Int) ≤ (j : Int) + 1 := by omega
        clear hx
        go_wp2
        refine plain_region (fun W' => W'.rangeAt bl (ol + j * 18) x.cells ∧ W'.cell? ⟨b, off + j, none⟩ = some (.slice Aj nj cj)) (by kernel_rfl) ⟨HRL.out, hcj⟩ (fun hHeld => ?_)
        (refine' anyT_take (i := 0) (v := _) rfl (by kernel_rfl) (by kernel_rfl) (by kernel_rfl) (by kernel_rfl) (fun _ _ _ h => h) (Or.inl ⟨by rfl, fun w' hSw => by (try dsimp only at hSw); go_split_ands; go_simp; (try with_reducible rfl)⟩) (by assumption) ?_; (try simp only [Act.put, List.getElem_toArray, List.getElem_cons_zero, List.getElem_cons_succ, List.setIfInBounds_toArray, List.set_cons_zero, List.set_cons_succ])); (refine' anyT_take (i := 1) (v := _) rfl (by kernel_rfl) (by kernel_rfl) (by kernel_rfl) (by kernel_rfl) (fun _ _ _ h => h) (Or.inl ⟨by rfl, fun w' hSw => by (try dsimp only at hSw); go_split_ands; go_simp; (try with_reducible rfl)⟩) (by assumption) ?_; (try simp only [Act.put, List.getElem_toArray, List.getElem_cons_zero, List.getElem_cons_succ, List.setIfInBounds_toArray, List.set_cons_zero, List.set_cons_succ])); (refine' anyT_take (i := 2) (v := _) rfl (by kernel_rfl) (by kernel_rfl) (by kernel_rfl) (by kernel_rfl) (fun _ _ _ h => h) (Or.inl ⟨by rfl, fun w' hSw => by (try dsimp only at hSw); go_split_ands; go_simp; (try with_reducible rfl)⟩) (by assumption) ?_; (try simp only [Act.put, List.getElem_toArray, List.getElem_cons_zero, List.getElem_cons_succ, List.setIfInBounds_toArray, List.set_cons_zero, List.set_cons_succ]))
        (refine' anyT_take (i := 3) (v := lawV x.l x.a) rfl (by kernel_rfl) (by kernel_rfl) (by kernel_rfl) (by kernel_rfl) (fun _ _ _ h => h) (yields_lawM (by rfl) (.tmp 193) rfl bl (ol + j * 18) x (by rfl) (fun _ h => h.1)) (by assumption) ?_; (try simp only [Act.put, List.getElem_toArray, List.getElem_cons_zero, List.getElem_cons_succ, List.setIfInBounds_toArray, List.set_cons_zero, List.set_cons_succ]))
        (refine' anyT_take (i := 4) (v := _) rfl (by kernel_rfl) (by kernel_rfl) (by kernel_rfl) (by kernel_rfl) (fun _ _ _ h => h) (Or.inl ⟨by rfl, fun w' hSw => by (try dsimp only at hSw); go_split_ands; go_simp; (try with_reducible rfl)⟩) (by assumption) ?_; (try simp only [Act.put, List.getElem_toArray, List.getElem_cons_zero, List.getElem_cons_succ, List.setIfInBounds_toArray, List.set_cons_zero, List.set_cons_succ])); (refine' anyT_take (i := 5) (v := _) rfl (by kernel_rfl) (by kernel_rfl) (by kernel_rfl) (by kernel_rfl) (fun _ _ _ h => h) (Or.inl ⟨by rfl, fun w' hSw => by (try dsimp only at hSw); go_split_ands; go_simp; (try with_reducible rfl)⟩) (by assumption) ?_; (try simp only [Act.put, List.getElem_toArray, List.getElem_cons_zero, List.getElem_cons_succ, List.setIfInBounds_toArray, List.set_cons_zero, List.set_cons_succ])); (refine' anyT_take (i := 6) (v := _) rfl (by kernel_rfl) (by kernel_rfl) (by kernel_rfl) (by kernel_rfl) (fun _ _ _ h => h) (Or.inl ⟨by rfl, fun w' hSw => by (try dsimp only at hSw); go_split_ands; go_simp; (try with_reducible rfl)⟩) (by assumption) ?_; (try simp only [Act.put, List.getElem_toArray, List.getElem_cons_zero, List.getElem_cons_succ, List.setIfInBounds_toArray, List.set_cons_zero, List.set_cons_succ])); (refine' anyT_take (i := 7) (v := _) rfl (by kernel_rfl) (by kernel_rfl) (by kernel_rfl) (by kernel_rfl) (fun _ _ _ h => h) (Or.inl ⟨by rfl, fun w' hSw => by (try dsimp only at hSw); go_split_ands; go_simp; (try with_reducible rfl)⟩) (by assumption) ?_; (try simp only [Act.put, List.getElem_toArray, List.getElem_cons_zero, List.getElem_cons_succ, List.setIfInBounds_toArray, List.set_cons_zero, List.set_cons_succ]))
        clear hcj
        (refine anyT_step (i := 8) (by kernel_rfl) rfl (fun K' hK' => ?_); simp only [List.getElem_toArray, List.getElem_cons_zero, List.getElem_cons_succ]; go_simp)
        refine (apply_c x.l x.a Aj nj cj xj _ (HLA.out.below (B := wr.heap.size) ((Below.refl wr.heap.size wr).drew) (Nat.le_refl _)) (HWj.out.below (B := wr.heap.size) ((Below.refl wr.heap.size wr).drew) (Nat.le_refl _)) (HTr.out.below (B := wr.heap.size) ((Below.refl wr.heap.size wr).drew) (Nat.le_refl _))).mono ?_
        rw [HAP.out]
        rintro e w16 ⟨A16, n16, c16, rfl, hw16, hb16', _⟩
        have hb16 : Below wr.heap.size wr w16 := (Below.refl wr.heap.size wr).drew.trans hb16'
        obtain ⟨q1, q2⟩ := hHeld
        have hS16 : w16.rangeAt bl (ol + j * 18) x.cells ∧ w16.cell? ⟨b, off + j, none⟩ = some (.slice Aj nj cj) := ⟨fun i v hv => (hb16.cell (p := ⟨bl, _, none⟩) (by assumption)).trans (q1 i v hv), (hb16.cell (p := ⟨b, off + j, none⟩) (by assumption)).trans q2⟩
        refine hK' _ _ ⟨.inr hS16, fun _ => ?_⟩
        clear hK' K' hb16' q1 q2
        have HW16 := Lib.hid hw16; clear hw16
        have hcm := (hb16.cell (p := ⟨b, off + (j + 1), none⟩) hbr).trans HCM.out
        have HWm' := Lib.hid (HWm.out.below hb16 (Nat.le_refl _))
        have hB16 : Below w15.heap.size w15 w16 := hB.trans (hb16.mono hBs)
        have hB16s := hB16.size
        clear hb16 HWm HLA HWj HTr HRL HCM
        (try simp only [Act.put, List.getElem_toArray, List.getElem_cons_zero, List.getElem_cons_succ, List.setIfInBounds_toArray, List.set_cons_zero, List.set_cons_succ])
        (refine' anyT_take (i := 9) (v := _) rfl (by kernel_rfl) (by kernel_rfl) (by kernel_rfl) (by kernel_rfl) (fun _ _ _ h => h) (Or.inl ⟨by rfl, fun w' hSw => by (try dsimp only at hSw); go_split_ands; go_simp; (try with_reducible rfl)⟩) (by assumption) ?_; (try simp only [Act.put, List.getElem_toArray, List.getElem_cons_zero, List.getElem_cons_succ, List.setIfInBounds_toArray, List.set_cons_zero, List.set_cons_succ])); (refine' anyT_take (i := 10) (v := _) rfl (by kernel_rfl) (by kernel_rfl) (by kernel_rfl) (by kernel_rfl) (fun _ _ _ h => h) (Or.inl ⟨by rfl, fun w' hSw => by (try dsimp only at hSw); go_split_ands; go_simp; (try with_reducible rfl)⟩) (by assumption) ?_; (try simp only [Act.put, List.getElem_toArray, List.getElem_cons_zero, List.getElem_cons_succ, List.setIfInBounds_toArray, List.set_cons_zero, List.set_cons_succ])); (refine' anyT_take (i := 11) (v := _) rfl (by kernel_rfl) (by kernel_rfl) (by kernel_rfl) (by kernel_rfl) (fun _ _ _ h => h) (Or.inl ⟨by rfl, fun w' hSw => by (try dsimp only at hSw); go_split_ands; go_simp; (try with_reducible rfl)⟩) (by assumption) ?_; (try simp only [Act.put, List.getElem_toArray, List.getElem_cons_zero, List.getElem_cons_succ, List.setIfInBounds_toArray, List.set_cons_zero, List.set_cons_succ])); (refine' anyT_take (i := 12) (v := _) rfl (by kernel_rfl) (by kernel_rfl) (by kernel_rfl) (by kernel_rfl) (fun _ _ _ h => h) (Or.inl ⟨by rfl, fun w' hSw => by (try dsimp only at hSw); go_split_ands; go_simp; (try with_reducible rfl)⟩) (by assumption) ?_; (try simp only [Act.put, List.getElem_toArray, List.getElem_cons_zero, List.getElem_cons_succ, List.setIfInBounds_toArray, List.set_cons_zero, List.set_cons_succ]))
        (refine anyT_step (i := 13) (by kernel_rfl) rfl (fun K' hK' => ?_); simp only [List.getElem_toArray, List.getElem_cons_zero, List.getElem_cons_succ]; go_simp)
        refine hK' _ _ ⟨.inl (by kernel_rfl), fun _ => anyT_done (by kernel_rfl) ?_ _⟩
        clear hK' K'
        go_wp2_with fail
        refine (wEqual_c _ _ _ _ _ _ _ _ w16 HW16.out HWm'.out).mono ?_
        rintro e w17 ⟨rfl, hB17'⟩
        rw [show decide (xm = xm) = true from decide_eq_true rfl]
        have hB17 : Below w15.heap.size w15 w17 := hB16.trans (hB17'.mono hB16s)
        clear hB17' hcm
        go_wp2
        go_roundw
        case rel => exact ⟨j + 1, by omega, by go_num, hB17⟩
        case measure => simp [intOf]; omega
      · obtain rfl : j = n := by omega
        have HBZ := Lib.hid hBB
        clear hBB hB
        go_wp2_with fail
        refine (works_c _ (HT.out.below HBZ.out (Nat.le_refl _))).mono ?_
        rintro e w16 ⟨rfl, hbw⟩
        go_wp2
        go_ret
        exact ⟨rfl, Below.trans HBZ.out (hbw.mono (Below.size HBZ.out))⟩
end Go.Proofs.YtfgilinjaldhhaaGreatDoor

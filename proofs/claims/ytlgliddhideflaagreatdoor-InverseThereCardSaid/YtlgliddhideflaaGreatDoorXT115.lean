/-
  ablautlaw11.InverseThere is true.
-/
import Derived.Test.YtlgliddhideflaaGreatDoorH08
set_option linter.all false
set_option maxRecDepth 100000
set_option maxHeartbeats 4000000
namespace Go.Proofs.YtlgliddhideflaaGreatDoor
open Go.RowKit Go.Shelf
structure Th11 (W : World) (A1 : Option Addr) (n1 c1 : Nat) (ys : List LawR) (Aw : Option Addr) (nw cw : Nat) (wv : List Snd) (As : Option Addr) (k cs : Nat) (ss : List Snd) (A6 : Option Addr) (n6 c6 : Nat) (L : List (List Snd)) : Prop where
 y : IsLaws W A1 n1 c1 ys
 w : IsWord W Aw nw cw wv
 s : IsWord W As k cs ss
 a : IsWords W A6 n6 c6 L
theorem Th11.below {W W' : World} {A1 : Option Addr} {n1 c1 : Nat} {ys : List LawR} {Aw : Option Addr} {nw cw : Nat} {wv : List Snd} {As : Option Addr} {k cs : Nat} {ss : List Snd} {A6 : Option Addr} {n6 c6 : Nat} {L : List (List Snd)} (h : Th11 W A1 n1 c1 ys Aw nw cw wv As k cs ss A6 n6 c6 L) (hb : Below W.heap.size W W') : Th11 W' A1 n1 c1 ys Aw nw cw wv As k cs ss A6 n6 c6 L :=
 ⟨h.y.below hb rr, h.w.below hb rr, h.s.below hb rr, h.a.below hb rr⟩
theorem there_c (A : Option Addr) (n c : Nat) (xs : List LawR) (a : Int) (ha0 : 0 ≤ a) (ha1 : a ≤ 255) (Al : Option Addr) (nl cl : Nat) (l : List Nat) (most : Int) (w : World) (hx : IsLaws w A n c xs) (hl : IsBytes w Al nl cl l) (hT : TabOK w) :
  Calls Tryz.prog 11 #[.slice A n c, .int .u8 a, .slice Al nl cl, .int .i64 most] w (RetTrue w) := by
 have HX := hI hx; have HL := hI hl; have HT := hI hT; clear hx hl hT
 obtain ⟨q, rfl⟩ : ∃ q : Nat, a = q := ⟨a.toNat, by omega⟩
 obtain ⟨k, hk⟩ : ∃ k, k = q % 5 := ⟨_, rfl⟩
 have hk5 : k ≤ 5 := by omega
 have hmod : ((q : Int) % 5) = (k : Int) := by omega
 have htm : Int.tmod (q : Int) 5 = (k : Int) := by rw [Int.tmod_eq_emod_of_nonneg (by omega)]; exact hmod
 clear hk
 go_enter Tryz.func11, Tryz.ntmps11
 go_wp2_with fail
 refine (lawful_c A n c xs 3 w HX.out (by omega)).mono ?_
 rintro e w1 ⟨A1, n1, c1, ys, rfl, hy, hye, hn3, hB1⟩
 have HY := hI hy; have HYE := hI hye
 have hmy := hy.max
 clear hy hye
 go_wp2_with fail
 refine (alphabet_c k hk5 w1).mono ?_
 rintro e w2 ⟨rfl, hown2, hb2⟩
 have hB2 := hB1.trans (hb2.mono hB1.size)
 have HS2 : Hid (IsWord w2 (some ⟨w1.heap.size, 0, none⟩) k 5 (alpha5.take k)) := Cells.of_own hown2 (by decide)
 have HY2 := hI (HY.out.below hb2 rr)
 clear hb2 hown2
 obtain ⟨bs, hbs⟩ : ∃ bs, bs = w1.heap.size := ⟨_, rfl⟩
 rw [← hbs] at HS2 ⊢
 clear hbs
 have HSP : Hid (Calls Tryz.prog 68 #[.slice (some ⟨bs, 0, none⟩) k 5, .slice Al nl cl, .int .i64 (6 : Nat)] w2 (RetWord w2 (speltM (alpha5.take k) l 6))) := by
  by_cases hk0 : k = 0
  ·subst hk0
   exact spelt0_c _ 5 Al nl cl l 6 w2 (HL.out.below hB2 rr) (by omega)
  ·exact spelt_c _ k 5 _ Al nl cl l 6 w2 HS2.out (HL.out.below hB2 rr) (by omega) (by omega)
 go_wp2_with fail
 refine HSP.out.mono ?_
 clear HSP
 obtain ⟨v, hv⟩ : ∃ v, v = speltM (alpha5.take k) l 6 := ⟨_, rfl⟩
 rw [← hv]
 have HV6 : Hid (v.length ≤ 6) := by show _ ≤ _; rw [hv]; exact spelt_len _ _ _
 have HVM : Hid (∀ s ∈ v, s ∈ alpha5.take k) := by rw [hv]; exact spelt_mem _ _ _
 have HVC : Hid (wcheck v = 0) := wcheck_alpha (alpha5_valid hk5) HVM.out (by have := HV6.out; omega)
 clear hv
 rintro e w3 ⟨Av, nv, cv, rfl, hwv, hb3, _⟩
 have hB3 := hB2.trans (hb3.mono hB2.size)
 have hnv : nv ≤ 32 := word_short hwv HVC.out
 have HV3 := hI hwv
 have HS3 := hI (HS2.out.below hb3 rr)
 have HY3 := hI (HY2.out.below hb3 rr)
 clear hb3 hwv HS2 HY2
 have HRF : Hid (refusedM (alpha5.take k) = 0) := alpha5_ok k hk5
 have HWZ : Hid (wrongM (lawsD ys) v (alpha5.take k) = 0) := wrong_zero HYE.out HVC.out HRF.out
 obtain ⟨L, hL⟩ : ∃ L, L = beforeM (lawsD ys) v (alpha5.take k) := ⟨_, rfl⟩
 have HBM : Hid (backM (lawsD ys) v (alpha5.take k) 100000 = (0, L)) := by
  show _ = _
  unfold backM
  rw [if_neg (by simpa using HWZ.out), if_neg (by decide), hL]
  exact congrArg _ (take_all HRF.out)
 have HCM : Hid (countM (lawsD ys) v (alpha5.take k) = (0, (L.length : Int))) := by
  show _ = _; unfold countM; rw [if_neg (by simpa using HWZ.out), hL]
 have HRM : Hid (reachM (lawsD ys) v (alpha5.take k) = (0, L.length != 0)) := by
  show _ = _; unfold reachM; rw [if_neg (by simpa using HWZ.out), hL]
 have HBS : Hid (∀ mo : Nat, backM (lawsD ys) v (alpha5.take k) mo = (0, L.take mo)) := by
  intro mo
  unfold backM
  rw [if_neg (by simpa using HWZ.out), if_neg (by omega), hL, Int.toNat_natCast]
 have HBN : Hid (∀ mo : Int, mo < 0 → backM (lawsD ys) v (alpha5.take k) mo = (3, [])) := by
  intro mo hmo
  unfold backM
  rw [if_neg (by simpa using HWZ.out), if_pos hmo]
 have HLM : Hid (∀ x ∈ L, (x.length ≤ 6 ∧ ∀ s ∈ x, s ∈ alpha5.take k) ∧ deriveM (lawsD ys) x = (0, v)) := by
  intro x hx; rw [hL] at hx; exact (before_mem _ _ _ _).1 hx
 have HLS : Hid (L.Pairwise (fun a b => soonerM a b = true)) := by show List.Pairwise _ _; rw [hL]; exact before_sooner _ _ _
 clear hL
 go_wp2_with fail
 refine (backAll_c A1 n1 c1 ys Av nv cv v _ k 5 (alpha5.take k) 100000 w3 HY3.out HV3.out HS3.out (HT.out.below hB3 rr) (by omega)).mono ?_
 rw [HBM.out]
 rintro e w4 ⟨A6, n6, c6, rfl, hw4, hb4⟩
 have hB4 := hB3.trans (hb4.mono hB3.size)
 have HLN : Hid (L.length = n6) := hw4.len
 have hm6 := hw4.max
 have HTH : Hid (Th11 w4 A1 n1 c1 ys Av nv cv v (some ⟨bs, 0, none⟩) k 5 (alpha5.take k) A6 n6 c6 L) := ⟨HY3.out.below hb4 rr, HV3.out.below hb4 rr, HS3.out.below hb4 rr, hw4⟩
 clear hb4 hw4 HV3 HS3 HY3
 go_wp2_with fail
 refine (invCount_c A1 n1 c1 ys Av nv cv v _ k 5 (alpha5.take k) w4 HTH.out.y HTH.out.w HTH.out.s (HT.out.below hB4 rr) (by omega)).mono ?_
 rw [HCM.out, HLN.out]
 rintro e w5 ⟨rfl, hb5⟩
 have hB5 := hB4.trans (hb5.mono hB4.size)
 have HTH5 := hI (HTH.out.below hb5)
 clear hb5 HTH
 go_wp2_with fail
 refine (reached_c A1 n1 c1 ys Av nv cv v _ k 5 (alpha5.take k) w5 HTH5.out.y HTH5.out.w HTH5.out.s (HT.out.below hB5 rr) (by omega)).mono ?_
 rw [HRM.out, HLN.out]
 rintro e w6 ⟨rfl, hb6⟩
 have hB6 := hB5.trans (hb6.mono hB5.size)
 have HTH6 := hI (HTH5.out.below hb6)
 clear hb6 HTH5
 have hn6e : ((n6 : Int) != (n6 : Int)) = false := by simp
 have hne1 : (n6 != 0) = decide (0 < n6) := by
  by_cases h : n6 = 0
  ·subst h; rfl
  ·have h1 : (n6 != 0) = true := by simpa using h
   rw [h1]; exact (decide_eq_true (by omega)).symm
 rw [hne1]
 clear hne1
 have hB6s := hB6.size
 have HB6 := hI hB6
 clear hB6 hB5 hB4 hB3 hB2 hB1
 go_wp2_with fail
 go_loopw [17, 18, 19, 20, 81] (fun _ _ _ _ v81 wr => ∃ j : Nat, v81 = .int .i64 j ∧ j ≤ n6 ∧ Below w6.heap.size w6 wr) (fun _ _ _ _ v81 _ => n6 - (intOf v81).toNat)
 case atStart => exact ⟨0, rfl, Nat.zero_le _, Below.refl _ _⟩
 case round =>
  obtain ⟨j, rfl, hj, hB⟩ := hrel
  have hBs := hB.size
  have HTR := hI (HTH6.out.below hB)
  have HBW : Hid (Below w.heap.size w wr) := HB6.out.trans (hB.mono hB6s)
  by_cases hlt : j < n6
  ·have hlt' : (j : Int) < (n6 : Int) := by omega
   obtain ⟨b, off, Ax, nx, cx, x, rfl, hbl, hcl, hxk, hwx⟩ := HTR.out.a.at_ hlt
   have hmem := List.mem_of_getElem? hxk
   have HXS := hI (HLM.out x hmem)
   have hx6 : (nx : Int) ≤ 6 := by have := HXS.out.1.1; rw [hwx.len] at this; omega
   have HXK := hI hxk
   have HWX := hI hwx
   clear hmem hxk hwx
   go_wp2_with fail
   refine (derive_c A1 n1 c1 ys Ax nx cx x wr HTR.out.y HWX.out (HT.out.below HBW.out rr)).mono ?_
   rw [HXS.out.2]
   rintro e w7 ⟨A7, n7, c7, rfl, hw7, hb7, _⟩
   have hB7 := hB.trans (hb7.mono hBs)
   have HTR7 := hI (HTR.out.below hb7)
   have HWX7 := hI (HWX.out.below hb7 rr)
   have HW7 := hI hw7
   clear hb7 hw7 HTR HWX hcl hbl
   go_wp2_with fail
   refine (wEqual_c A7 Av n7 nv c7 cv v v w7 HW7.out HTR7.out.w).mono ?_
   rw [decide_eq_true rfl]
   rintro e w8 ⟨rfl, hb8⟩
   have hB8 := hB7.trans (hb8.mono hB7.size)
   have HTR8 := hI (HTR7.out.below hb8)
   have HWX8 := hI (HWX7.out.below hb8 rr)
   clear hb8 HTR7 HWX7 HW7
   by_cases hj0 : j = 0
   ·have hj1 : ¬ (0 : Int) < (j : Int) := by omega
    go_wp2_with fail
    go_loopw [121] (fun v121 wr => ∃ i : Nat, v121 = .int .i64 i ∧ i ≤ nx ∧ Below w8.heap.size w8 wr) (fun v121 _ => nx - (intOf v121).toNat)
    case atStart => exact ⟨0, rfl, Nat.zero_le _, Below.refl _ _⟩
    case round =>
     obtain ⟨i, rfl, hi, hBi⟩ := hrel
     by_cases hin : i < nx
     ·have hin' : (i : Int) < (nx : Int) := by omega
      obtain ⟨b3, off3, p, m, hA3, hb3, hsi, hc0, hc1⟩ := (HWX8.out.below hBi rr).at_ hin
      have hmem : (p, m) ∈ alpha5.take k := HXS.out.1.2 _ (List.mem_of_getElem? hsi)
      have HMM : Hid (decide ((p, m) ∈ alpha5.take k) = true) := by show _ = _; exact decide_eq_true hmem
      clear hsi hmem
      subst hA3
      have hba : Below wr.heap.size wr (wr.alloc (.cells #[.int .u32 p, .int .u32 m] 24)) := (Below.refl _ _).alloc rr _
      have hBa := hBi.trans (hba.mono hBi.size)
      go_wp2_with fail
      refine (hasSnd_c _ k _ (alpha5.take k) p m _ (HTR8.out.s.below hBa rr)).mono ?_
      rw [HMM.out]
      rintro e w9 ⟨rfl, hb9⟩
      have hB9 := hBa.trans (hb9.mono hBa.size)
      clear hb9 hba hBa hc0 hc1
      go_wp2
      go_roundw
      case rel => exact ⟨i + 1, by go_num, by omega, hB9⟩
      case measure => simp [intOf]; omega
     ·obtain rfl : i = nx := by omega
      have hBn : Below w6.heap.size w6 wr := Below.trans hB8 (hBi.mono (Below.size hB8))
      go_wp2
      go_roundw
      case rel => exact ⟨j + 1, by go_num, by omega, hBn⟩
      case measure => simp [intOf]; omega
   ·have hj1 : (0 : Int) < (j : Int) := by omega
    obtain ⟨jm, hjm⟩ : ∃ jm, j = jm + 1 := ⟨j - 1, by omega⟩
    have hjm1 : jm < n6 := by omega
    obtain ⟨b2, off2, Ap, np, cp, xp, eA, hb2, hc2, hxp, hwp⟩ := HTR8.out.a.at_ hjm1
    cases eA
    have HSO : Hid (soonerM xp x = true) := pairwise_at HLS.out (show jm < j by omega) hxp HXK.out
    have hsub : IntKind.i64.wrap ((j : Int) - 1) = (jm : Int) := by rw [IntWalk.i64_in _ (by omega)]; omega
    have hjmi : (jm : Int) < (n6 : Int) := by omega
    have HWP := hI hwp
    clear hxp hwp hjm
    go_wp2_with fail
    refine (sooner11_c Ap Ax np nx cp cx xp x w8 HWP.out HWX8.out).mono ?_
    rw [HSO.out]
    rintro e w10 ⟨rfl, hb10⟩
    have hB10 := hB8.trans (hb10.mono hB8.size)
    have HTR10 := hI (HTR8.out.below hb10)
    have HWX10 := hI (HWX8.out.below hb10 rr)
    clear hb10 HTR8 HWX8 HWP hc2 hB8 hsub
    go_wp2_with fail
    go_loopw [121] (fun v121 wr => ∃ i : Nat, v121 = .int .i64 i ∧ i ≤ nx ∧ Below w10.heap.size w10 wr) (fun v121 _ => nx - (intOf v121).toNat)
    case atStart => exact ⟨0, rfl, Nat.zero_le _, Below.refl _ _⟩
    case round =>
     obtain ⟨i, rfl, hi, hBi⟩ := hrel
     by_cases hin : i < nx
     ·have hin' : (i : Int) < (nx : Int) := by omega
      obtain ⟨b3, off3, p, m, hA3, hb3, hsi, hc0, hc1⟩ := (HWX10.out.below hBi rr).at_ hin
      have hmem : (p, m) ∈ alpha5.take k := HXS.out.1.2 _ (List.mem_of_getElem? hsi)
      have HMM : Hid (decide ((p, m) ∈ alpha5.take k) = true) := by show _ = _; exact decide_eq_true hmem
      clear hsi hmem
      subst hA3
      have hba : Below wr.heap.size wr (wr.alloc (.cells #[.int .u32 p, .int .u32 m] 24)) := (Below.refl _ _).alloc rr _
      have hBa := hBi.trans (hba.mono hBi.size)
      go_wp2_with fail
      refine (hasSnd_c _ k _ (alpha5.take k) p m _ (HTR10.out.s.below hBa rr)).mono ?_
      rw [HMM.out]
      rintro e w9 ⟨rfl, hb9⟩
      have hB9 := hBa.trans (hb9.mono hBa.size)
      clear hb9 hba hBa hc0 hc1
      go_wp2
      go_roundw
      case rel => exact ⟨i + 1, by go_num, by omega, hB9⟩
      case measure => simp [intOf]; omega
     ·obtain rfl : i = nx := by omega
      have hBn : Below w6.heap.size w6 wr := Below.trans hB10 (hBi.mono (Below.size hB10))
      go_wp2
      go_roundw
      case rel => exact ⟨j + 1, by go_num, by omega, hBn⟩
      case measure => simp [intOf]; omega
  ·obtain rfl : n6 = j := by omega
   have hBW := HBW.out
   clear HBW hlt hj hB hBs
   by_cases hneg : most < 0
   ·go_wp2_with fail
    refine (backAll_c A1 n1 c1 ys Av nv cv v _ k 5 (alpha5.take k) most wr HTR.out.y HTR.out.w HTR.out.s (HT.out.below hBW rr) (by omega)).mono ?_
    rw [HBN.out most hneg]
    rintro e w8 ⟨A8, n8, c8, rfl, hw8, hb8⟩
    obtain rfl : 0 = n8 := hw8.len
    have hB8 := hBW.trans (hb8.mono hBW.size)
    clear hb8 hw8
    go_wp2_with fail
    refine (works11_c _ (HT.out.below hB8 rr)).mono ?_
    rintro e wz ⟨rfl, hbz⟩
    go_wp2
    go_ret
    exact ⟨rfl, Below.trans hB8 (hbz.mono (Below.size hB8))⟩
   ·obtain ⟨mo, rfl⟩ : ∃ mo : Nat, most = mo := ⟨most.toNat, by omega⟩
    go_wp2_with fail
    refine (backAll_c A1 n1 c1 ys Av nv cv v _ k 5 (alpha5.take k) mo wr HTR.out.y HTR.out.w HTR.out.s (HT.out.below hBW rr) (by omega)).mono ?_
    rw [HBS.out mo]
    rintro e w8 ⟨A8, n8, c8, rfl, hw8, hb8⟩
    have hlen : n8 = min mo n6 := by have h := hw8.len; rw [List.length_take, HLN.out] at h; exact h.symm
    have hm8 := hw8.max
    have h86 : n8 ≤ n6 := by omega
    have h8m : n8 ≤ mo := by omega
    have hmin : min (mo : Int) (n6 : Int) = (n8 : Int) := by omega
    have hne8 : ((n8 : Int) != (n8 : Int)) = false := by simp
    have HB8 := hI (hBW.trans (hb8.mono hBW.size))
    have hB8s := HB8.out.size
    have HTR8 := hI (HTR.out.below hb8)
    have HW8 := hI hw8
    clear hb8 hw8 hlen HTR
    go_wp2_with fail
    go_loopw [25, 26, 164] (fun _ _ v164 wr => ∃ j : Nat, v164 = .int .i64 j ∧ j ≤ n8 ∧ Below w8.heap.size w8 wr) (fun _ _ v164 _ => n8 - (intOf v164).toNat)
    case atStart => exact ⟨0, rfl, Nat.zero_le _, Below.refl _ _⟩
    case round =>
     obtain ⟨j, rfl, hj, hB⟩ := hrel
     by_cases hlt : j < n8
     ·have hlt' : (j : Int) < (n8 : Int) := by omega
      have hlt6 : (j : Int) < (n6 : Int) := by omega
      have HTR9 := hI (HTR8.out.below hB)
      obtain ⟨b, off, Ax, nx, cx, x, rfl, hbl, hcl, hxk, hwx⟩ := HTR9.out.a.at_ (show j < n6 by omega)
      obtain ⟨b', off', Ax', nx', cx', x', rfl, hbl', hcl', hxk', hwx'⟩ := (HW8.out.below hB rr).at_ hlt
      obtain rfl : x = x' := by
       rw [List.getElem?_take, if_pos (by omega)] at hxk'
       exact Option.some.inj (hxk.symm.trans hxk')
      have HWX := hI hwx; have HWX' := hI hwx'
      clear hxk hxk' hwx hwx'
      go_wp2_with fail
      refine (wEqual_c Ax' Ax nx' nx cx' cx x x wr HWX'.out HWX.out).mono ?_
      rw [decide_eq_true rfl]
      rintro e w9 ⟨rfl, hb9⟩
      have hB9 := hB.trans (hb9.mono hB.size)
      clear hb9
      go_wp2
      go_roundw
      case rel => exact ⟨j + 1, by go_num, by omega, hB9⟩
      case measure => simp [intOf]; omega
     ·obtain rfl : n8 = j := by omega
      have hBF := HB8.out.trans (hB.mono hB8s)
      go_wp2_with fail
      refine (works11_c _ (HT.out.below hBF rr)).mono ?_
      rintro e wz ⟨rfl, hbz⟩
      go_wp2
      go_ret
      exact ⟨rfl, Below.trans hBF (hbz.mono (Below.size hBF))⟩
end Go.Proofs.YtlgliddhideflaaGreatDoor

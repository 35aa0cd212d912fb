/-
  ablautlaw11.InverseBackAgain is true.
-/
import Derived.Test.YtlgliddhideflaaGreatDoorH08
set_option linter.all false
set_option maxRecDepth 100000
set_option maxHeartbeats 4000000
namespace Go.Proofs.YtlgliddhideflaaGreatDoor
open Go.RowKit Go.Shelf
theorem again_c (A : Option Addr) (n c : Nat) (xs : List LawR) (a : Int) (ha0 : 0 ≤ a) (ha1 : a ≤ 255) (Al : Option Addr) (nl cl : Nat) (l : List Nat) (w : World) (hx : IsLaws w A n c xs) (hl : IsBytes w Al nl cl l) (hT : TabOK w) :
  Calls Tryz.prog 13 #[.slice A n c, .int .u8 a, .slice Al nl cl] w (RetTrue w) := by
 have HX := hI hx; have HL := hI hl; have HT := hI hT; clear hx hl hT
 obtain ⟨q, rfl⟩ : ∃ q : Nat, a = q := ⟨a.toNat, by omega⟩
 obtain ⟨r, hr⟩ : ∃ r, r = q % 4 := ⟨_, rfl⟩
 have hr4 : r < 4 := by omega
 obtain ⟨k, hk⟩ : ∃ k, k = 1 + r := ⟨_, rfl⟩
 have hk0 : 0 < k := by omega
 have hk5 : k ≤ 5 := by omega
 have hmod : ((q : Int) % 4) = (r : Int) := by omega
 have htm : Int.tmod (q : Int) 4 = (r : Int) := by rw [Int.tmod_eq_emod_of_nonneg (by omega)]; exact hmod
 have hadd : IntKind.i64.wrap (1 + (r : Int)) = (k : Int) := by rw [IntWalk.i64_in _ (by omega)]; omega
 clear hr hk
 go_enter Tryz.func13, Tryz.ntmps13
 go_wp2_with fail
 refine (lawful_c A n c xs 3 w HX.out (by omega)).mono ?_
 rintro e w1 ⟨A1, n1, c1, ys, rfl, hy, hye, hn3, hB1⟩
 have HY := hI hy; have HYE := hI hye
 have hmy := hy.max
 clear hy hye
 go_wp2_with fail
 refine (alphabet_c k hk5 w1).mono ?_
 rintro e w2 ⟨rfl, hown2, hb2⟩
 have hB2 := hB1.trans (hb2.mono hB1.size)
 have HS2 : Hid (IsWord w2 (some ⟨w1.heap.size, 0, none⟩) k 5 (alpha5.take k)) := Cells.of_own hown2 (by decide)
 have HY2 := hI (HY.out.below hb2 rr)
 clear hb2 hown2
 obtain ⟨bs, hbs⟩ : ∃ bs, bs = w1.heap.size := ⟨_, rfl⟩
 rw [← hbs] at HS2 ⊢
 clear hbs
 go_wp2_with fail
 refine (spelt_c (some ⟨bs, 0, none⟩) k 5 (alpha5.take k) Al nl cl l 6 w2 HS2.out (HL.out.below hB2 rr) hk0 (by omega)).mono ?_
 obtain ⟨v, hv⟩ : ∃ v, v = speltM (alpha5.take k) l 6 := ⟨_, rfl⟩
 rw [← hv]
 have HV6 : Hid (v.length ≤ 6) := by show _ ≤ _; rw [hv]; exact spelt_len _ _ _
 have HVM : Hid (∀ s ∈ v, s ∈ alpha5.take k) := by rw [hv]; exact spelt_mem _ _ _
 have HVC : Hid (wcheck v = 0) := wcheck_alpha (alpha5_valid hk5) HVM.out (by have := HV6.out; omega)
 clear hv
 rintro e w3 ⟨Av, nv, cv, rfl, hwv, hb3, _⟩
 have hB3 := hB2.trans (hb3.mono hB2.size)
 have hb4 : Below w3.heap.size w3 (w3.alloc (.cells #[.slice Av nv cv] 32)) := bel
 have hc4 : (w3.alloc (.cells #[.slice Av nv cv] 32)).cell? ⟨w3.heap.size, 0, none⟩ = some (.slice Av nv cv) :=
  cell_at_heap (j := 0) (heap_new_at rfl) rfl
 have hz4 : w3.heap.size < (w3.alloc (.cells #[.slice Av nv cv] 32)).heap.size := by simp
 have HV3 := hI hwv
 have HS3 := hI (HS2.out.below hb3 rr)
 have HY3 := hI (HY2.out.below hb3 rr)
 clear hb3 hwv HS2 HY2
 have HV4 := hI (HV3.out.below hb4 rr)
 have HS4 := hI (HS3.out.below hb4 rr)
 have HY4 := hI (HY3.out.below hb4 rr)
 have hB4 := hB3.trans (hb4.mono hB3.size)
 have HB4 := hI hB4
 have HC4 := hI hc4
 have HZ4 := hI hz4
 clear hb4 hc4 hB4 hz4 HV3 HS3 HY3
 go_wp2_with fail
 obtain ⟨b8, hb8⟩ : ∃ b8, b8 = w3.heap.size := ⟨_, rfl⟩
 rw [← hb8] at HC4 HZ4 ⊢
 generalize (w3.alloc (.cells #[.slice Av nv cv] 32)) = w4 at *
 clear hb8
 have hB4 := HB4.out
 refine (derive_c A1 n1 c1 ys Av nv cv v w4 HY4.out HV4.out (HT.out.below hB4 rr)).mono ?_
 obtain ⟨ea, hea⟩ : ∃ ea, ea = deriveM (lawsD ys) v := ⟨_, rfl⟩
 rw [← hea]
 have HEA := hI hea; clear hea
 rintro e w5 ⟨Aw, nw, cw, rfl, hww, hb5, _⟩
 have hB5 := hB4.trans (hb5.mono hB4.size)
 have HC5 := hI ((hb5.cell (p := ⟨b8, 0, none⟩) HZ4.out).trans HC4.out)
 have hz5 : b8 < w5.heap.size := Nat.lt_of_lt_of_le HZ4.out hb5.size
 have HW5 := hI hww
 have HS5 := hI (HS4.out.below hb5 rr)
 have HY5 := hI (HY4.out.below hb5 rr)
 have HV5 := hI (HV4.out.below hb5 rr)
 clear hb5 hww HS4 HY4 HV4 HC4 HZ4 HB4
 have herr := derive_errs HYE.out HVC.out
 rw [← HEA.out] at herr
 by_cases h0 : ea.1 = 0
 case neg =>
  have h11 : ea.1 = 11 := herr.resolve_left h0
  have h1 : (ea.1 != 0) = true := by simpa using h0
  have h2 : (ea.1 == 11) = true := by simpa using h11
  clear h0 h11 herr
  go_wp2_with fail
  refine (works11_c _ (HT.out.below hB5 rr)).mono ?_
  rintro e wz ⟨rfl, hbz⟩
  go_wp2
  go_ret
  exact ⟨rfl, Below.trans hB5 (hbz.mono (Below.size hB5))⟩
 have h1 : (ea.1 != 0) = false := by simpa using h0
 have HWC : Hid (wcheck ea.2 = 0) := by show _ = _; rw [HEA.out]; exact derive_wcheck HYE.out HVC.out
 have hnw : nw ≤ 32 := word_short HW5.out HWC.out
 have HRF : Hid (refusedM (alpha5.take k) = 0) := alpha5_ok k hk5
 have HBF : Hid (v ∈ beforeM (lawsD ys) ea.2 (alpha5.take k)) := back_again HVM.out HV6.out (by rw [← HEA.out]; exact Prod.ext h0 rfl)
 have HBM : Hid (backM (lawsD ys) ea.2 (alpha5.take k) 100000 = (0, beforeM (lawsD ys) ea.2 (alpha5.take k))) := by
  show _ = _
  unfold backM
  rw [if_neg (by simpa using wrong_zero HYE.out HWC.out HRF.out), if_neg (by decide)]
  exact congrArg _ (take_all HRF.out)
 have HRM : Hid (reachM (lawsD ys) ea.2 (alpha5.take k) = (0, true)) := by
  show _ = _
  unfold reachM
  rw [if_neg (by simpa using wrong_zero HYE.out HWC.out HRF.out)]
  cases hbe : beforeM (lawsD ys) ea.2 (alpha5.take k) with
  | nil => have := HBF.out; rw [hbe] at this; cases this
  | cons x y => rfl
 clear h0 herr
 go_wp2_with fail
 refine (backAll_c A1 n1 c1 ys Aw nw cw ea.2 _ k 5 (alpha5.take k) 100000 w5 HY5.out HW5.out HS5.out (HT.out.below hB5 rr) (by omega)).mono ?_
 rw [HBM.out]
 rintro e w6 ⟨A6, n6, c6, rfl, hw6, hb6⟩
 have hB6 := hB5.trans (hb6.mono hB5.size)
 have HC6 := hI ((hb6.cell (p := ⟨b8, 0, none⟩) hz5).trans HC5.out)
 have hz6 : b8 < w6.heap.size := Nat.lt_of_lt_of_le hz5 hb6.size
 have HA6 := hI hw6
 have HW6 := hI (HW5.out.below hb6 rr)
 have HS6 := hI (HS5.out.below hb6 rr)
 have HY6 := hI (HY5.out.below hb6 rr)
 have HV6' := hI (HV5.out.below hb6 rr)
 clear hb6 hw6 HW5 HS5 HY5 HV5 HC5 hz5
 go_wp2_with fail
 refine (reached_c A1 n1 c1 ys Aw nw cw ea.2 _ k 5 (alpha5.take k) w6 HY6.out HW6.out HS6.out (HT.out.below hB6 rr) (by omega)).mono ?_
 rw [HRM.out]
 rintro e w7 ⟨rfl, hb7⟩
 have hB7 := hB6.trans (hb7.mono hB6.size)
 have hc7 := (hb7.cell (p := ⟨b8, 0, none⟩) hz6).trans HC6.out
 have hz7 : b8 < w7.heap.size := Nat.lt_of_lt_of_le hz6 hb7.size
 have HA7 := hI (HA6.out.below hb7 rr)
 have HW7 := hI (HW6.out.below hb7 rr)
 have HS7 := hI (HS6.out.below hb7 rr)
 have HY7 := hI (HY6.out.below hb7 rr)
 have HV7 := hI (HV6'.out.below hb7 rr)
 clear hb7 HA6 HW6 HS6 HY6 HV6' HC6 hz6
 go_wp2_with fail
 refine (has_word (enters_of Tryz.func70 (by kernel_rfl) rfl) again1_c A6 n6 c6 _ b8 Av nv cv v w7 HA7.out hz7 hc7 HV7.out HBF.out).mono ?_
 rintro e w8 ⟨rfl, hb8⟩
 have hB8 := hB7.trans (hb8.mono hB7.size)
 have HA8 := hI (HA7.out.below hb8 rr)
 have HW8 := hI (HW7.out.below hb8 rr)
 have HS8 := hI (HS7.out.below hb8 rr)
 have HY8 := hI (HY7.out.below hb8 rr)
 clear hb8 HA7 HW7 HS7 HY7 HV7 hc7 hz7
 by_cases hn1 : n1 = 1
 case neg =>
  have hn1' : ((n1 : Int) == 1) = false := by simp; omega
  go_wp2_with fail
  refine (works11_c _ (HT.out.below hB8 rr)).mono ?_
  rintro e wz ⟨rfl, hbz⟩
  go_wp2
  go_ret
  exact ⟨rfl, Below.trans hB8 (hbz.mono (Below.size hB8))⟩
 subst hn1
 obtain ⟨y, hyy⟩ : ∃ y, ys = [y] := List.length_eq_one_iff.1 HY8.out.1.2
 have hy0 : ys[0]? = some y := by rw [hyy]; rfl
 obtain ⟨b1, off1, hA1, hbl1, hrg⟩ := HY8.out.at_ hy0
 have HRG := hI hrg
 have HLY := hI (HY8.out.2 y (List.mem_of_getElem? hy0))
 have HYY := hI hyy
 subst hA1
 clear hrg hyy hy0
 go_wp2_with (refine load_lawM rfl (.tmp 75) rfl b1 _ y rfl HRG.out ?_)
 refine (back_c y Aw nw cw ea.2 _ k 5 (alpha5.take k) 100000 w8 HLY.out HW8.out HS8.out (HT.out.below hB8 rr) (by omega)).mono ?_
 have hys : [y.l] = lawsD ys := by rw [HYY.out]; rfl
 rw [hys, HBM.out]
 rintro e w9 ⟨A9, n9, c9, rfl, hw9, hb9⟩
 have hB9 := hB8.trans (hb9.mono hB8.size)
 have HA9 := hI (HA8.out.below hb9 rr)
 have HO9 := hI hw9
 clear hb9 hw9 hys HA8 HW8 HS8 HY8 HRG HLY
 go_wp2_with fail
 refine (eqf_c A9 A6 n9 n6 c9 c6 _ w9 HO9.out HA9.out).mono ?_
 rintro e w10 ⟨rfl, hb10⟩
 have hB10 := hB9.trans (hb10.mono hB9.size)
 clear hb10
 go_wp2_with fail
 refine (works11_c _ (HT.out.below hB10 rr)).mono ?_
 rintro e wz ⟨rfl, hbz⟩
 go_wp2
 go_ret
 exact ⟨rfl, Below.trans hB10 (hbz.mono (Below.size hB10))⟩
end Go.Proofs.YtlgliddhideflaaGreatDoor

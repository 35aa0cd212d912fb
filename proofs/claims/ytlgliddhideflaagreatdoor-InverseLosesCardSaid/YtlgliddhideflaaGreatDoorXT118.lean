/-
  ablautlaw11.InverseFixed is true.
-/
import Derived.Test.YtlgliddhideflaaGreatDoorH08
import Derived.Test.YtlgliddhideflaaGreatDoorH09
set_option linter.all false
set_option maxRecDepth 100000
set_option maxHeartbeats 4000000
namespace Go.Proofs.YtlgliddhideflaaGreatDoor
open Go.RowKit Go.Shelf
theorem range_yes {f : Nat → Bool} {i : Nat} (h : f i = true) : ((List.range (i + 1)).filter f).length = ((List.range i).filter f).length + 1 := by
 rw [List.range_succ, List.filter_append, List.filter_cons_of_pos h]; simp
theorem range_no {f : Nat → Bool} {i : Nat} (h : f i = false) : ((List.range (i + 1)).filter f).length = ((List.range i).filter f).length := by
 rw [List.range_succ, List.filter_append, List.filter_cons_of_neg (by simp [h])]; simp
def slN : Value → Nat
 | .slice _ n _ => n
 | _ => 0
theorem fixedIs_c (l : LawD) (a : LawA) (a1 : Int) (h10 : 0 ≤ a1) (h11 : a1 ≤ 255) (a2 : Int) (h20 : 0 ≤ a2) (h21 : a2 ≤ 255) (w : World) (hx : LawAt w l a) (hT : TabOK w) :
  Calls Tryz.prog 9 #[lawV l a, .int .u8 a1, .int .u8 a2] w (RetTrue w) := by
 have HX := hI hx; have HT := hI hT; clear hx hT
 obtain ⟨p, rfl⟩ : ∃ p : Nat, a1 = p := ⟨a1.toNat, by omega⟩
 obtain ⟨q, rfl⟩ : ∃ q : Nat, a2 = q := ⟨a2.toNat, by omega⟩
 obtain ⟨r, hr⟩ : ∃ r, r = p % 3 := ⟨_, rfl⟩
 obtain ⟨k, hk⟩ : ∃ k, k = 1 + r := ⟨_, rfl⟩
 have hk0 : 0 < k := by omega
 have hk3 : k ≤ 3 := by omega
 have hk5 : k ≤ 5 := by omega
 have hmod : ((p : Int) % 3) = (r : Int) := by omega
 have htm : Int.tmod (p : Int) 3 = (r : Int) := by rw [Int.tmod_eq_emod_of_nonneg (by omega)]; exact hmod
 have hadd : IntKind.i64.wrap (1 + (r : Int)) = (k : Int) := by rw [IntWalk.i64_in _ (by omega)]; omega
 obtain ⟨n, hn⟩ : ∃ n, n = q % 5 := ⟨_, rfl⟩
 have hn4 : n ≤ 4 := by omega
 have hmod2 : ((q : Int) % 5) = (n : Int) := by omega
 have htm2 : Int.tmod (q : Int) 5 = (n : Int) := by rw [Int.tmod_eq_emod_of_nonneg (by omega)]; exact hmod2
 clear hr hk hn
 have HPW : Hid (∀ m, m ≤ 4 → k ^ m ≤ 625) := fun m hm => by
  have h1 : k ^ m ≤ 5 ^ m := Nat.pow_le_pow_left hk5 m
  have h2 : 5 ^ m ≤ 5 ^ 4 := Nat.pow_le_pow_right (by decide) hm
  omega
 obtain ⟨Wb, hWb, hrb, hlb, hBb, hzb⟩ := law_box w l a
 go_enter Tryz.func9, Tryz.ntmps9
 go_wp2_with fail
 refine (alphabet_c k hk5 Wb).mono ?_
 rintro e w2 ⟨rfl, hown2, hb2⟩
 have hB2 := hBb.trans (hb2.mono hBb.size)
 have HR2 := hI ((hb2.block _ hlb).trans hrb)
 have HS2 : Hid (IsWord w2 (some ⟨Wb.heap.size, 0, none⟩) k 5 (alpha5.take k)) := Cells.of_own hown2 (by decide)
 clear hb2 hown2 hrb hlb hBb hzb hWb
 obtain ⟨bs, hbs⟩ : ∃ bs, bs = Wb.heap.size := ⟨_, rfl⟩
 rw [← hbs] at HS2 ⊢
 clear hbs
 have HL2 := hI (HX.out.below hB2 rr)
 go_wp2_with (first | (refine load_law rfl (.tmp 3) rfl w.heap.size l a rfl HR2.out ?_) | (refine law1A rfl (.tmp 26) rfl ⟨l, a⟩ rfl HL2.out ?h3))
 case h3 =>
  intro X hl3 hb3 hz3 _
  have hB3 := hB2.trans (hb3.mono hB2.size)
  have HR3 := hI ((hb3.block _ (lt_of_block HR2.out)).trans HR2.out)
  have HS3 := hI (HS2.out.below hb3 rr)
  have HL3 := hI hl3
  clear hb3 hl3 hz3 HR2 HS2 HL2
  go_wp2_with fail
  refine (light11_c _ 1 1 [⟨l, a⟩] X HL3.out).mono ?_
  rintro e w4 ⟨b, rfl, _, hb4⟩
  have hB4 := hB3.trans (hb4.mono hB3.size)
  have HR4 := hI ((hb4.block _ (lt_of_block HR3.out)).trans HR3.out)
  have HS4 := hI (HS3.out.below hb4 rr)
  clear hb4 HR3 HS3 HL3
  cases b with
  | false => go_wp2_with fail
             refine (works11_c _ (HT.out.below hB4 rr)).mono ?_
             rintro e wz ⟨rfl, hbz⟩
             go_wp2
             go_ret
             exact ⟨rfl, Below.trans hB4 (hbz.mono (Below.size hB4))⟩
  | true =>
   go_wp2_with (refine load_law rfl (.tmp 3) rfl w.heap.size l a rfl HR4.out ?_)
   refine (fixed_c ⟨l, a⟩ _ k 5 (alpha5.take k) n w4 (HX.out.below hB4 rr) HS4.out (HT.out.below hB4 rr)).mono ?_
   obtain ⟨fm, hfm⟩ : ∃ fm, fm = fixedM l (alpha5.take k) n := ⟨_, rfl⟩
   rw [← hfm]
   rintro e w5 ⟨rfl, hb5⟩
   have hB5 := hB4.trans (hb5.mono hB4.size)
   have HR5 := hI ((hb5.block _ (lt_of_block HR4.out)).trans HR4.out)
   have HS5 := hI (HS4.out.below hb5 rr)
   have HFM := hI hfm
   clear hb5 HR4 HS4 hfm
   go_wp2_with (refine load_law rfl (.tmp 3) rfl w.heap.size l a rfl HR5.out ?_)
   refine (lCheck_c l a w5 (HX.out.below hB5 rr)).mono ?_
   obtain ⟨er, her⟩ : ∃ er, er = lawE l := ⟨_, rfl⟩
   rw [← her]
   rintro e w6 ⟨rfl, hb6⟩
   have hB6 := hB5.trans (hb6.mono hB5.size)
   have HR6 := hI ((hb6.block _ (lt_of_block HR5.out)).trans HR5.out)
   have HS6 := hI (HS5.out.below hb6 rr)
   clear hb6 HR5 HS5
   by_cases h0 : er = 0
   case neg =>
    have h1 : (er != 0) = true := by simpa using h0
    have HF2 : fm = (17, 0) := by
     rw [HFM.out]
     have h17 : lawsE [l] = 17 := by
      unfold lawsE
      rw [if_neg (by simp), if_pos (by simpa [← her] using h0)]
     unfold fixedM
     have hsh : shortM [l] (alpha5.take k) n = 17 := by unfold shortM wrongM; rw [h17]; rfl
     rw [hsh]; rfl
    subst HF2
    clear h0 her HFM
    go_wp2_with fail
    refine (works11_c _ (HT.out.below hB6 rr)).mono ?_
    rintro e wz ⟨rfl, hbz⟩
    go_wp2
    go_ret
    exact ⟨rfl, Below.trans hB6 (hbz.mono (Below.size hB6))⟩
   have h1 : (er != 0) = false := by simpa using h0
   have HLE : Hid (lawsE [l] = 0) := (lawsE_one l).2 (her.symm.trans h0)
   clear h0 her
   have HRF : Hid (refusedM (alpha5.take k) = 0) := alpha5_ok k hk5
   have hlen : (alpha5.take k).length = k := alpha5_len hk5
   have HLEN := hI hlen; clear hlen
   obtain ⟨pr, hpr⟩ : ∃ pr : Nat → Bool, pr = fun i => decide (applyM l (lsd (alpha5.take k) n i) = (0, lsd (alpha5.take k) n i)) := ⟨_, rfl⟩
   have HPR := hI hpr; clear hpr
   have HFF : Hid (fm = ((0 : Int), ((((List.range (k ^ n)).filter pr).length : Nat) : Int))) := by
    show _ = _
    rw [HFM.out]
    unfold fixedM
    have hsh : shortM [l] (alpha5.take k) n = 0 := by
     unfold shortM
     rw [if_neg (by simpa using wrong_zero HLE.out (by rfl) HRF.out), if_neg (by omega)]
    rw [hsh, if_neg (by simp), Int.toNat_natCast, fixed_total HLE.out HRF.out (by omega), HLEN.out, HPR.out]
   have hf1 : fm.1 = 0 := by rw [HFF.out]
   obtain ⟨tot, htot⟩ : ∃ tot, tot = k ^ n := ⟨_, rfl⟩
   have ht625 : tot ≤ 625 := by rw [htot]; exact HPW.out n hn4
   have HTOT := hI htot; clear htot
   go_wp2
   go_loopw [12, 51] (fun v12 v51 wr => ∃ j t : Nat, v51 = .int .i64 j ∧ v12 = .int .i64 t ∧ j ≤ n ∧ Hid (t = k ^ j) ∧ Below w6.heap.size w6 wr) (fun _ v51 _ => n - (intOf v51).toNat)
   case atStart => exact ⟨0, 1, rfl, rfl, Nat.zero_le _, by simp [Hid], Below.refl _ _⟩
   case round =>
    obtain ⟨j, t, rfl, rfl, hj, ht, hB⟩ := hrel
    by_cases hlt : j < n
    ·have hlt' : (j : Int) < (n : Int) := by omega
     obtain ⟨t2, ht2⟩ : ∃ t2, t2 = k ^ (j + 1) := ⟨_, rfl⟩
     have ht6 : t2 ≤ 625 := by rw [ht2]; exact HPW.out (j + 1) (by omega)
     have hmul : IntKind.i64.wrap ((t : Int) * (k : Int)) = (t2 : Int) := by
      have e : t2 = t * k := by rw [ht2, ht.out, Nat.pow_succ]
      have e2 : (t : Int) * (k : Int) = (t2 : Int) := by rw [e]; exact (Int.natCast_mul t k).symm
      rw [e2]; exact IntWalk.i64_in _ (by omega)
     have HT2 : Hid (t2 = k ^ (j + 1)) := ht2
     clear ht2
     go_wp2
     go_roundw
     case rel => exact ⟨j + 1, t2, by go_num, rfl, by omega, HT2, hB⟩
     case measure => simp [intOf]; omega
    ·obtain rfl : n = j := by omega
     have htt : t = tot := by rw [ht.out, HTOT.out]
     subst htt
     have hB6s := hB6.size
     have HB6 := hI hB6
     have hB7 := hB
     clear ht hlt hj
     obtain ⟨w7, hw7⟩ : ∃ w7 : World, w7 = wr := ⟨_, rfl⟩
     rw [← hw7] at hB7 hB ⊢
     have HB7 := hI hB7
     clear hB7 hB hB6 hB5 hB4 hB3 hB2
     go_wp2
     go_loopw [11, 13, 14, 15, 16, 17, 59] (fun v11 _ _ _ _ _ v59 wr => ∃ i wn : Nat, v59 = .int .i64 i ∧ v11 = .int .i64 wn ∧ i ≤ t ∧ wn ≤ i ∧ Hid (wn = ((List.range i).filter pr).length) ∧ Below w6.heap.size w6 wr) (fun _ _ _ _ _ _ v59 _ => t - (intOf v59).toNat)
     case atStart => exact ⟨0, 0, rfl, rfl, Nat.zero_le _, rr, by simp [Hid], (by first | exact HB7.out | (rw [← hw7]; exact HB7.out))⟩
     case round =>
      clear hw7
      obtain ⟨i, wn, rfl, rfl, hi, hwi, hwn, hB⟩ := hrel
      have hBs := hB.size
      by_cases hit : i < t
      ·have hit' : (i : Int) < (t : Int) := by omega
       obtain ⟨wo, hwo⟩ : ∃ wo : World, wo = wr := ⟨_, rfl⟩
       rw [← hwo] at hB hBs ⊢
       have HB := hI hB; clear hB
       go_wp2
       go_loopw [14, 15] (fun v14 v15 wr => ∃ m R : Nat, v15 = .int .i64 R ∧ m ≤ n ∧ Hid (R = i / k ^ m) ∧ R ≤ i ∧ Hid (wr.ownsRow wo.heap.size 24 2 v14 m (wcells (lsd (alpha5.take k) m i))) ∧ Below wo.heap.size wo wr) (fun v14 _ _ => n - slN v14)
       case atStart => exact ⟨0, i, rfl, Nat.zero_le _, by simp [Hid], rr, World.ownsRow_nil _ _ _ _, (by first | exact Below.refl _ _ | (rw [hwo]; exact Below.refl _ _))⟩
       case round =>
        clear hwo
        obtain ⟨m, R, rfl, hm, hR, hRi, hown, hBo⟩ := hrel
        obtain ⟨A14, c14, rfl⟩ := own_form hown.out
        have hBos := hBo.size
        by_cases hmn : m < n
        ·have hmn' : (m : Int) < (n : Int) := by omega
         obtain ⟨r2, hr2⟩ : ∃ r2, r2 = R % k := ⟨_, rfl⟩
         have hrk : r2 < k := by rw [hr2]; exact Nat.mod_lt _ hk0
         obtain ⟨R2, hR2⟩ : ∃ R2, R2 = R / k := ⟨_, rfl⟩
         have hR2i : R2 ≤ R := by rw [hR2]; exact Nat.div_le_self _ _
         have hmodk : ((R : Int) % (k : Int)) = (r2 : Int) := by rw [hr2]; omega
         have htmk : Int.tmod (R : Int) (k : Int) = (r2 : Int) := by rw [Int.tmod_eq_emod_of_nonneg (by omega)]; exact hmodk
         have hdivk : ((R : Int) / (k : Int)) = (R2 : Int) := by rw [hR2]; omega
         have htdk : Int.tdiv (R : Int) (k : Int) = (R2 : Int) := by rw [Int.tdiv_eq_ediv_of_nonneg (by omega)]; exact hdivk
         have hwR2 : IntKind.i64.wrap (R2 : Int) = (R2 : Int) := IntWalk.i64_in _ (by omega)
         have hk4 : ¬ k = 0 := by omega
         have hri : (r2 : Int) < (k : Int) := by omega
         obtain ⟨b1, off1, p1, m1, eA, hb1, hsk, hc0, hc1⟩ := (HS6.out.below (HB.out.trans (hBo.mono hBs)) rr).at_ hrk
         cases eA
         simp only [Nat.zero_add] at hc0 hc1
         have HST : Hid (lsd (alpha5.take k) (m + 1) i = lsd (alpha5.take k) m i ++ [(p1, m1)]) := by
          show _ = _
          rw [lsd_snoc, HLEN.out, ← hR.out, ← hr2, List.getD_eq_getElem?_getD, hsk]; rfl
         have HR2 : Hid (R2 = i / k ^ (m + 1)) := by show _ = _; rw [hR2, hR.out, Nat.div_div_eq_div_mul, ← Nat.pow_succ]
         have HOWN := hI hown.out
         clear hr2 hR2 hsk hown hR
         go_wp2_with (at_builtin; go_loud (refine append_snd rfl (.tmp 71) (.tmp 79) rfl _ _ _ _ rfl (HOWN.out.alloc _) (some ⟨wr.heap.size, 0, none⟩) 1 1 [(p1, m1)] rfl (word_one wr p1 m1 24) (by omega) (by simp; omega) ?h7))
         case h7 =>
          intro v9 w9 hown9 hg9 _
          obtain ⟨A9, c9, rfl⟩ := own_form hown9
          have hB9 : Below wo.heap.size wo w9 := (hBo.alloc hBos _).grown hg9 (by simp; omega) (fun q hq => (HOWN.out.lt q hq).1)
          have HOWN9 : Hid (w9.ownsRow wo.heap.size 24 2 (.slice A9 (m + 1) c9) (m + 1) (wcells (lsd (alpha5.take k) (m + 1) i))) := by rw [HST.out]; exact hown9
          clear hown9 hg9 HOWN
          go_wp2
          go_roundw
          case rel => exact ⟨m + 1, R2, rfl, by omega, HR2, by omega, HOWN9, hB9⟩
          case measure => simp [slN]; omega
        ·obtain rfl : n = m := by omega
         have HW := hI (show IsWord wr A14 n c14 (lsd (alpha5.take k) n i) from Cells.of_own hown.out (by decide))
         have HBX : Hid (Below w6.heap.size w6 wr) := HB.out.trans (hBo.mono hBs)
         have hBX := HB6.out.trans (HBX.out.mono hB6s)
         have HRX := hI ((HBX.out.block _ (lt_of_block HR6.out)).trans HR6.out)
         have HPI : Hid (pr i = decide (applyM l (lsd (alpha5.take k) n i) = (0, lsd (alpha5.take k) n i))) := by show _ = _; rw [HPR.out]
         clear hown hBo hR
         go_wp2_with (refine load_law rfl (.tmp 3) rfl w.heap.size l a rfl HRX.out ?_)
         refine (changes_c l a A14 n c14 _ wr (HX.out.below hBX rr) HW.out (HT.out.below hBX rr)).mono ?_
         obtain ⟨x, hx⟩ : ∃ x, x = lsd (alpha5.take k) n i := ⟨_, rfl⟩
         rw [← hx]
         rw [← hx] at HPI
         obtain ⟨e2, he2⟩ : ∃ e2, e2 = (applyM l x).1 := ⟨_, rfl⟩
         obtain ⟨ch, hch⟩ : ∃ ch, ch = changesM l x := ⟨_, rfl⟩
         rw [← he2, ← hch]
         have HY : Hid (pr i = (e2 == 0 && !ch)) := by
          show _ = _
          rw [HPI.out, hch, he2]
          unfold changesM
          by_cases g1 : (applyM l x).1 = 0
          ·by_cases g2 : (applyM l x).2 = x
           ·rw [decide_eq_true (Prod.ext g1 g2), g1, decide_eq_true g2]; rfl
           ·rw [decide_eq_false (fun e => g2 (by rw [e])), g1, decide_eq_false g2]; rfl
          ·rw [decide_eq_false (fun e => g1 (by rw [e]))]
           simp [g1]
         clear he2 hch hx HPI
         rintro e w9 ⟨rfl, hb9⟩
         have hB9 : Below w6.heap.size w6 w9 := HBX.out.trans (hb9.mono HBX.out.size)
         clear hb9 HRX hBX
         by_cases g1 : e2 = 0
         ·have g1' : (e2 == 0) = true := by simpa using g1
          cases ch with
          | false =>
           have HN : Hid (wn + 1 = ((List.range (i + 1)).filter pr).length) := by
            show _ = _
            rw [range_yes (by rw [HY.out, g1']; rfl), ← hwn.out]
           clear g1
           go_wp2
           go_roundw
           case rel => exact ⟨i + 1, wn + 1, by go_num, by go_num, by omega, by omega, HN, hB9⟩
           case measure => simp [intOf]; omega
          | true =>
           have HN : Hid (wn = ((List.range (i + 1)).filter pr).length) := by
            show _ = _
            rw [range_no (by rw [HY.out, g1']; rfl)]; exact hwn.out
           clear g1
           go_wp2
           go_roundw
           case rel => exact ⟨i + 1, wn, by go_num, rfl, by omega, by omega, HN, hB9⟩
           case measure => simp [intOf]; omega
         ·have g1' : (e2 == 0) = false := by simpa using g1
          have HN : Hid (wn = ((List.range (i + 1)).filter pr).length) := by
           show _ = _
           rw [range_no (by rw [HY.out, g1']; rfl)]; exact hwn.out
          clear g1
          go_wp2
          go_roundw
          case rel => exact ⟨i + 1, wn, by go_num, rfl, by omega, by omega, HN, hB9⟩
          case measure => simp [intOf]; omega
      ·obtain rfl : t = i := by omega
       have hBF := HB6.out.trans (hB.mono hB6s)
       have hf2 : fm.2 = (wn : Int) := by rw [HFF.out, hwn.out, HTOT.out]
       have hww : ((wn : Int) == (wn : Int)) = true := by simp
       go_wp2_with fail
       refine (works11_c _ (HT.out.below hBF rr)).mono ?_
       rintro e wz ⟨rfl, hbz⟩
       go_wp2
       go_ret
       exact ⟨rfl, Below.trans hBF (hbz.mono (Below.size hBF))⟩
end Go.Proofs.YtlgliddhideflaaGreatDoor

/-
  ablautlaw11.InverseLoses is true.
-/
import Derived.Deep.CutRange
import Derived.Test.YtlgliddhideflaaGreatDoorXT118
set_option linter.all false
set_option maxRecDepth 100000
set_option maxHeartbeats 4000000
namespace Go.Proofs.YtlgliddhideflaaGreatDoor
open Go.RowKit Go.Shelf
structure Lo11 (W : World) (A1 : Option Addr) (n1 c1 : Nat) (ys : List LawR) (As : Option Addr) (k cs : Nat) (ss : List Snd) (Ai : Option Addr) (ni ci : Nat) (IM : List (List Snd)) (Al : Option Addr) (nl cl : Nat) (ps : List PairR) : Prop where
 y : IsLaws W A1 n1 c1 ys
 s : IsWord W As k cs ss
 i : IsWords W Ai ni ci IM
 p : IsPairs W Al nl cl ps
theorem Lo11.below {W W' : World} {A1 : Option Addr} {n1 c1 : Nat} {ys : List LawR} {As : Option Addr} {k cs : Nat} {ss : List Snd} {Ai : Option Addr} {ni ci : Nat} {IM : List (List Snd)} {Al : Option Addr} {nl cl : Nat} {ps : List PairR} (h : Lo11 W A1 n1 c1 ys As k cs ss Ai ni ci IM Al nl cl ps) (hb : Below W.heap.size W W') : Lo11 W' A1 n1 c1 ys As k cs ss Ai ni ci IM Al nl cl ps :=
 ⟨h.y.below hb rr, h.s.below hb rr, h.i.below hb rr, ⟨h.p.1.below hb rr, fun s hs => ⟨(h.p.2 s hs).1.below hb rr, (h.p.2 s hs).2.below hb rr⟩⟩⟩
structure Pa11 (W : World) (bp : Nat) (Ap : Option Addr) (cp : Nat) (Aq : Option Addr) (cq n : Nat) (x1 x2 : List Snd) : Prop where
 p : IsWord W Ap n cp x1
 q : IsWord W Aq n cq x2
 c0 : W.cell? ⟨bp, 0, none⟩ = some (.slice Ap n cp)
 c1 : W.cell? ⟨bp, 1, none⟩ = some (.slice Aq n cq)
 z : bp < W.heap.size
theorem Pa11.below {W W' : World} {bp : Nat} {Ap : Option Addr} {cp : Nat} {Aq : Option Addr} {cq n : Nat} {x1 x2 : List Snd} (h : Pa11 W bp Ap cp Aq cq n x1 x2) (hb : Below W.heap.size W W') : Pa11 W' bp Ap cp Aq cq n x1 x2 :=
 ⟨h.p.below hb rr, h.q.below hb rr, (hb.cell (p := ⟨bp, 0, none⟩) h.z).trans h.c0, (hb.cell (p := ⟨bp, 1, none⟩) h.z).trans h.c1, Nat.lt_of_lt_of_le h.z hb.size⟩
theorem loses_c (A : Option Addr) (n0 c : Nat) (xs : List LawR) (a1 : Int) (h10 : 0 ≤ a1) (h11 : a1 ≤ 255) (a2 : Int) (h20 : 0 ≤ a2) (h21 : a2 ≤ 255) (w : World) (hx : IsLaws w A n0 c xs) (hT : TabOK w) :
  Calls Tryz.prog 8 #[.slice A n0 c, .int .u8 a1, .int .u8 a2] w (RetTrue w) := by
 have HX := hI hx; have HT := hI hT; clear hx hT
 obtain ⟨p, rfl⟩ : ∃ p : Nat, a1 = p := ⟨a1.toNat, by omega⟩
 obtain ⟨q, rfl⟩ : ∃ q : Nat, a2 = q := ⟨a2.toNat, by omega⟩
 obtain ⟨k, hk⟩ : ∃ k, k = p % 6 := ⟨_, rfl⟩
 have hk5 : k ≤ 5 := by omega
 have hmod : ((p : Int) % 6) = (k : Int) := by omega
 have htm : Int.tmod (p : Int) 6 = (k : Int) := by rw [Int.tmod_eq_emod_of_nonneg (by omega)]; exact hmod
 obtain ⟨m0, hm0⟩ : ∃ m0, m0 = q % 5 := ⟨_, rfl⟩
 have hm4 : m0 ≤ 4 := by omega
 have hmod2 : ((q : Int) % 5) = (m0 : Int) := by omega
 have htm2 : Int.tmod (q : Int) 5 = (m0 : Int) := by rw [Int.tmod_eq_emod_of_nonneg (by omega)]; exact hmod2
 obtain ⟨n, hn⟩ : ∃ n, n = if k = 5 then min m0 3 else m0 := ⟨_, rfl⟩
 have hn4 : n ≤ 4 := by rw [hn]; split <;> omega
 have HNE : Hid (n = if k = 5 then min m0 3 else m0) := hn
 clear hk hm0 hn
 have HPW : Hid (∀ m, m ≤ 4 → k ^ m ≤ 625) := fun m hm => by
  have h1 : k ^ m ≤ 5 ^ m := Nat.pow_le_pow_left hk5 m
  have h2 : 5 ^ m ≤ 5 ^ 4 := Nat.pow_le_pow_right (by decide) hm
  omega
 have HRF : Hid (refusedM (alpha5.take k) = 0) := alpha5_ok k hk5
 have HAU : Hid (WordU (alpha5.take k)) := fun s hs => by
  have hs' := List.mem_of_mem_take hs
  simp [alpha5] at hs'
  rcases hs' with rfl | rfl | rfl | rfl | rfl <;> exact ⟨⟨by decide, by decide⟩, ⟨by decide, by decide⟩⟩
 have HLEN : Hid ((alpha5.take k).length = k) := alpha5_len hk5
 have HEN := hI (enters_of Tryz.func57 (by kernel_rfl) rfl)
 go_enter Tryz.func8, Tryz.ntmps8
 go_wp2_with fail
 refine (lawful_c A n0 c xs 9 w HX.out (by omega)).mono ?_
 rintro e w1 ⟨A1, n1, c1, ys, rfl, hy, hye, hn3, hB1⟩
 have HY := hI hy; have HYE := hI hye
 have hmy := hy.max
 clear hy hye
 have HSH : Hid (shortM (lawsD ys) (alpha5.take k) n = 0) := by
  show _ = _
  unfold shortM
  rw [if_neg (by simpa using wrong_zero (w := []) HYE.out (by rfl) HRF.out), if_neg (by omega)]
 obtain ⟨IM, hIM⟩ : ∃ IM, IM = setL soonerM ((outsM11 (lawsD ys) (alpha5.take k) n).map fun p => p.2) := ⟨_, rfl⟩
 obtain ⟨LO, hLO⟩ : ∃ LO, LO = lostGo (outsM11 (lawsD ys) (alpha5.take k) n) [] := ⟨_, rfl⟩
 have HIM : Hid (imageM (lawsD ys) (alpha5.take k) n = (0, IM)) := by
  show _ = _
  unfold imageM
  rw [HSH.out, if_neg (by simp), Int.toNat_natCast, hIM]
 have HLM : Hid (lostM (lawsD ys) (alpha5.take k) n = (0, LO)) := by
  show _ = _
  unfold lostM
  rw [HSH.out, if_neg (by simp), Int.toNat_natCast, hLO]
 have HIS : Hid (IM.Pairwise (fun a b => soonerM a b = true)) := by show List.Pairwise _ _; rw [hIM]; exact setL_sorted sooner_strict _
 have HLP : Hid (∀ q ∈ LO, ∃ x, deriveM (lawsD ys) q.1 = (0, x) ∧ deriveM (lawsD ys) q.2 = (0, x) ∧ q.1.length = n ∧ q.2.length = n ∧ soonerM q.1 q.2 = true ∧ x ∈ IM) := by
  intro q hq; rw [hLO] at hq; rw [hIM]; exact lost_pair hq
 have HLS : Hid ((LO.map fun p => p.2).Pairwise (fun a b => soonerM a b = true)) := by show List.Pairwise _ _; rw [hLO]; exact lost_order _ _ _
 obtain ⟨pr, hpr⟩ : ∃ pr : Nat → Bool, pr = fun i => decide ((deriveM (lawsD ys) (lsd (alpha5.take k) n i)).1 = 0) := ⟨_, rfl⟩
 have HTO : Hid (IM.length + LO.length = ((List.range (k ^ n)).filter pr).length) := by
  show _ = _
  rw [hIM, hLO, loses_total _ (alpha5_nodup hk5), HLEN.out, hpr]
 have HPR := hI hpr
 clear hIM hLO hpr
 go_upto_if 38 with fail
 go_cut [8] from 37 to 40 (fun s8 wx => s8 = .int .i64 (n : Int) ∧ wx = w1)
 case first =>
  by_cases hkk : k = 5
  ·have hk7 : ((k : Int) == 5) = true := by simp; omega
   have hmin : min (m0 : Int) 3 = (n : Int) := by have h := HNE.out; rw [if_pos hkk] at h; omega
   clear hkk
   go_wp2
   go_meet
   case rel => exact ⟨rfl, rfl⟩
  ·have hk7 : ((k : Int) == 5) = false := by simp; omega
   obtain rfl : n = m0 := by have h := HNE.out; rw [if_neg hkk] at h; exact h
   clear hkk
   go_wp2
   go_meet
   case rel => exact ⟨rfl, rfl⟩
 case rest =>
  obtain ⟨rfl, hwc⟩ := hcut
  obtain rfl : w1 = wc := hwc.symm
  go_wp2_with fail
  refine (alphabet_c k hk5 w1).mono ?_
  rintro e w2 ⟨rfl, hown2, hb2⟩
  have hB2 := hB1.trans (hb2.mono hB1.size)
  have HS2 : Hid (IsWord w2 (some ⟨w1.heap.size, 0, none⟩) k 5 (alpha5.take k)) := Cells.of_own hown2 (by decide)
  have HY2 := hI (HY.out.below hb2 rr)
  clear hb2 hown2
  obtain ⟨bs, hbs⟩ : ∃ bs, bs = w1.heap.size := ⟨_, rfl⟩
  rw [← hbs] at HS2 ⊢
  clear hbs
  go_wp2_with fail
  refine (image_c A1 n1 c1 ys _ k 5 (alpha5.take k) n w2 HY2.out HS2.out (HT.out.below hB2 rr)).mono ?_
  rw [HIM.out]
  rintro e w3 ⟨Ai, ni, ci, rfl, hwi, hb3⟩
  have hB3 := hB2.trans (hb3.mono hB2.size)
  have HI3 := hI hwi
  have HS3 := hI (HS2.out.below hb3 rr)
  have HY3 := hI (HY2.out.below hb3 rr)
  clear hb3 hwi HS2 HY2
  go_wp2_with fail
  refine (lost_c A1 n1 c1 ys _ k 5 (alpha5.take k) n w3 HY3.out HS3.out (HT.out.below hB3 rr) HAU.out).mono ?_
  rw [HLM.out]
  rintro e w4 ⟨Al, nl, cl, ps, rfl, hpd, hpp, hb4⟩
  have hB4 := hB3.trans (hb4.mono hB3.size)
  have hmp := hpp.max
  have HPD := hI hpd
  have HLN : Hid (LO.length = nl) := by show _ = _; have h1 := hpp.1.2; have h2 : ps.map PairR.data = LO := hpd; rw [← h2, List.length_map]; exact h1
  have HTH : Hid (Lo11 w4 A1 n1 c1 ys (some ⟨bs, 0, none⟩) k 5 (alpha5.take k) Ai ni ci IM Al nl cl ps) := ⟨HY3.out.below hb4 rr, HS3.out.below hb4 rr, HI3.out.below hb4 rr, hpp⟩
  have HIN : Hid (IM.length = ni) := HI3.out.len
  have hmi := HI3.out.max
  have HB4 := hI hB4
  have hB4s := hB4.size
  clear hb4 hpp hpd HY3 HS3 HI3 hB4 hB3 hB2 hB1
  go_wp2_with fail
  go_loopw [14, 15, 65] (fun _ _ v65 wr => ∃ j : Nat, v65 = .int .i64 j ∧ j ≤ ni ∧ Below w4.heap.size w4 wr) (fun _ _ v65 _ => ni - (intOf v65).toNat)
  case atStart => exact ⟨0, rfl, Nat.zero_le _, Below.refl _ _⟩
  case round =>
   obtain ⟨j, rfl, hj, hB⟩ := hrel
   have HTR := hI (HTH.out.below hB)
   by_cases hlt : j < ni
   ·have hlt' : (j : Int) < (ni : Int) := by omega
    obtain ⟨b, off, Ax, nx, cx, x, rfl, hbl, hcl, hxk, hwx⟩ := HTR.out.i.at_ hlt
    have HXK := hI hxk
    have HWX := hI hwx
    clear hxk hwx
    by_cases hj0 : j = 0
    ·have hj1 : ¬ (0 : Int) < (j : Int) := by omega
     clear hj0
     go_wp2
     go_roundw
     case rel => exact ⟨j + 1, by go_num, by omega, hB⟩
     case measure => simp [intOf]; omega
    ·have hj1 : (0 : Int) < (j : Int) := by omega
     obtain ⟨jm, hjm⟩ : ∃ jm, j = jm + 1 := ⟨j - 1, by omega⟩
     obtain ⟨b2, off2, Ap, np, cp, xp, eA, hb2, hc2, hxp, hwp⟩ := HTR.out.i.at_ (show jm < ni by omega)
     cases eA
     have HSO : Hid (soonerM xp x = true) := pairwise_at HIS.out (show jm < j by omega) hxp HXK.out
     have hsub : IntKind.i64.wrap ((j : Int) - 1) = (jm : Int) := by rw [IntWalk.i64_in _ (by omega)]; omega
     have hjmi : (jm : Int) < (ni : Int) := by omega
     have HWP := hI hwp
     clear hxp hwp hjm hj0
     go_wp2_with fail
     refine (sooner11_c Ap Ax np nx cp cx xp x wr HWP.out HWX.out).mono ?_
     rw [HSO.out]
     rintro e w10 ⟨rfl, hb10⟩
     have hB10 := hB.trans (hb10.mono hB.size)
     clear hb10 hsub
     go_wp2
     go_roundw
     case rel => exact ⟨j + 1, by go_num, by omega, hB10⟩
     case measure => simp [intOf]; omega
   ·obtain rfl : ni = j := by omega
    obtain ⟨w5, hw5⟩ : ∃ w5 : World, w5 = wr := ⟨_, rfl⟩
    rw [← hw5] at hB HTR ⊢
    have HB5 := hI (HB4.out.trans (hB.mono hB4s))
    have hB5s := HB5.out.size
    clear hB HTH hlt hj HB4
    go_wp2_with fail
    go_loopw [16, 19, 20, 21, 85] (fun _ _ _ _ v85 wr => ∃ j : Nat, v85 = .int .i64 j ∧ j ≤ nl ∧ Below w5.heap.size w5 wr) (fun _ _ _ _ v85 _ => nl - (intOf v85).toNat)
    case atStart => exact ⟨0, rfl, Nat.zero_le _, (by first | exact Below.refl _ _ | (rw [hw5]; exact Below.refl _ _))⟩
    case round =>
     clear hw5
     obtain ⟨j, rfl, hj, hB⟩ := hrel
     have HT6 := hI (HTR.out.below hB)
     have HBW : Hid (Below w.heap.size w wr) := HB5.out.trans (hB.mono hB5s)
     by_cases hlt : j < nl
     ·have hlt' : (j : Int) < (nl : Int) := by omega
      have hltl : j < ps.length := by rw [HT6.out.p.1.2]; omega
      obtain ⟨b, off, eAl, hbl, hc0, hc1⟩ := HT6.out.p.at2 (List.getElem?_eq_getElem hltl)
      obtain ⟨s, hsk⟩ : ∃ s, s = ps[j] := ⟨_, rfl⟩
      rw [← hsk] at hc0 hc1
      have hsj : ps[j]? = some s := by rw [hsk]; exact List.getElem?_eq_getElem hltl
      have hLOj : LO[j]? = some s.data := by have h2 : ps.map PairR.data = LO := HPD.out; rw [← h2, List.getElem?_map, hsj]; rfl
      obtain ⟨x, hdx, hdy, hlp, hlq, hso, hxi⟩ := HLP.out _ (List.mem_of_getElem? hLOj)
      obtain ⟨hwp, hwq⟩ := HT6.out.p.2 _ (List.mem_of_getElem? hsj)
      obtain ⟨⟨Ap, np, cp, x1⟩, ⟨Aq, nq, cq, x2⟩⟩ := s
      have HDX : Hid (deriveM (lawsD ys) x1 = (0, x)) := hdx
      have HDY : Hid (deriveM (lawsD ys) x2 = (0, x)) := hdy
      have HSO : Hid (soonerM x1 x2 = true) := hso
      have HXI : Hid (x ∈ IM) := hxi
      have HWP : Hid (IsWord wr Ap np cp x1) := hwp
      have HWQ : Hid (IsWord wr Aq nq cq x2) := hwq
      have HLX : Hid (x1.length = n) := hlp
      have HLY : Hid (x2.length = n) := hlq
      have HLJ : Hid (LO[j]? = some (x1, x2)) := hLOj
      have hnp : n = np := by rw [← HLX.out]; exact HWP.out.len
      have hnq : n = nq := by rw [← HLY.out]; exact HWQ.out.len
      clear hdx hdy hso hxi hwp hwq hlp hlq hLOj hsj hltl hsk
      subst hnp
      subst hnq
      cases eAl
      have f0 : wr.cell? ⟨b, off + j * 2, none⟩ = some (.slice Ap n cp) := hc0
      have f1 : wr.cell? ⟨b, off + j * 2 + 1, none⟩ = some (.slice Aq n cq) := hc1
      clear hc0 hc1
      go_wp2_with fail
      have hb6 : Below wr.heap.size wr (wr.alloc (.cells #[.slice Ap n cp, .slice Aq n cq] 52)) := bel
      have HP6 : Hid (Pa11 (wr.alloc (.cells #[.slice Ap n cp, .slice Aq n cq] 52)) wr.heap.size Ap cp Aq cq n x1 x2) := ⟨HWP.out.below hb6 rr, HWQ.out.below hb6 rr, cell_at_heap (j := 0) (heap_new_at rfl) rfl, cell_at_heap (j := 1) (heap_new_at rfl) rfl, by simp⟩
      have HTA := hI (HT6.out.below hb6)
      have HBA := hI (HBW.out.trans (hb6.mono HBW.out.size))
      have HBL := hI (hB.trans (hb6.mono hB.size))
      clear hb6 HWP HWQ f0 f1 HT6 HBW hB
      obtain ⟨bp, hbp⟩ : ∃ bp, bp = wr.heap.size := ⟨_, rfl⟩
      rw [← hbp] at HP6 ⊢
      generalize (wr.alloc (.cells #[.slice Ap n cp, .slice Aq n cq] 52)) = w6 at *
      clear hbp hbl
      refine (derive_c A1 n1 c1 ys Ap n cp x1 w6 HTA.out.y HP6.out.p (HT.out.below HBA.out rr)).mono ?_
      rw [HDX.out]
      rintro e w7 ⟨A7, n7, c7, rfl, hw7, hb7, _⟩
      have HP7 := hI (HP6.out.below hb7)
      have HT7 := hI (HTA.out.below hb7)
      have HB7 := hI (HBA.out.trans (hb7.mono HBA.out.size))
      have HL7 := hI (HBL.out.trans (hb7.mono HBL.out.size))
      have HW7 := hI hw7
      clear hb7 hw7 HP6 HTA HBA HBL
      have hb8 : Below w7.heap.size w7 (w7.alloc (.cells #[.slice A7 n7 c7] 32)) := bel
      have HP8 := hI (HP7.out.below hb8)
      have HT8 := hI (HT7.out.below hb8)
      have HB8 := hI (HB7.out.trans (hb8.mono HB7.out.size))
      have HL8 := hI (HL7.out.trans (hb8.mono HL7.out.size))
      have HW8 := hI (HW7.out.below hb8 rr)
      have HC8 : Hid ((w7.alloc (.cells #[.slice A7 n7 c7] 32)).cell? ⟨w7.heap.size, 0, none⟩ = some (.slice A7 n7 c7)) := cell_at_heap (j := 0) (heap_new_at rfl) rfl
      have HZ8 : Hid (w7.heap.size < (w7.alloc (.cells #[.slice A7 n7 c7] 32)).heap.size) := by simp [Hid]
      have p0 := HP8.out.c0
      have p1 := HP8.out.c1
      clear hb8 HP7 HT7 HB7 HL7 HW7
      go_wp2_with fail
      clear p0 p1
      obtain ⟨b8, hb8⟩ : ∃ b8, b8 = w7.heap.size := ⟨_, rfl⟩
      rw [← hb8] at HC8 HZ8 ⊢
      generalize (w7.alloc (.cells #[.slice A7 n7 c7] 32)) = w8 at *
      clear hb8
      refine (derive_c A1 n1 c1 ys Aq n cq x2 w8 HT8.out.y HP8.out.q (HT.out.below HB8.out rr)).mono ?_
      rw [HDY.out]
      rintro e w9 ⟨A9, n9, c9, rfl, hw9, hb9, _⟩
      have HP9 := hI (HP8.out.below hb9)
      have HT9 := hI (HT8.out.below hb9)
      have HB9 := hI (HB8.out.trans (hb9.mono HB8.out.size))
      have HL9 := hI (HL8.out.trans (hb9.mono HL8.out.size))
      have HX9 := hI (HW8.out.below hb9 rr)
      have HC9 := hI ((hb9.cell (p := ⟨b8, 0, none⟩) HZ8.out).trans HC8.out)
      have HZ9 : Hid (b8 < w9.heap.size) := Nat.lt_of_lt_of_le HZ8.out hb9.size
      have HW9 := hI hw9
      clear hb9 hw9 HP8 HT8 HB8 HL8 HW8 HC8 HZ8
      have hnn : ((n : Int) != (n : Int)) = false := by simp
      go_wp2_with fail
      by_cases hj0 : j = 0
      ·have hj1 : ¬ (0 : Int) < (j : Int) := by omega
       clear hj0
       have hS : w9.cell? ⟨bp, 0, none⟩ = some (.slice Ap n cp) ∧ w9.cell? ⟨bp, 1, none⟩ = some (.slice Aq n cq) ∧ w9.cell? ⟨b8, 0, none⟩ = some (.slice A7 n7 c7) := ⟨HP9.out.c0, HP9.out.c1, HC9.out⟩
       refine plain_region (fun W' => W'.cell? ⟨bp, 0, none⟩ = some (.slice Ap n cp) ∧ W'.cell? ⟨bp, 1, none⟩ = some (.slice Aq n cq) ∧ W'.cell? ⟨b8, 0, none⟩ = some (.slice A7 n7 c7)) (by kernel_rfl) hS (fun hHeld => ?_)
       (refine' anyT_tk 0 rfl ?_; (try simp only [Act.put, nY, nX])); (refine' anyT_tk 1 rfl ?_; (try simp only [Act.put, nY, nX])); (refine' anyT_tk 2 rfl ?_; (try simp only [Act.put, nY, nX])); (refine' anyT_tk 3 rfl ?_; (try simp only [Act.put, nY, nX])); (refine' anyT_tk 4 rfl ?_; (try simp only [Act.put, nY, nX])); (refine' anyT_tk 5 rfl ?_; (try simp only [Act.put, nY, nX])); (refine' anyT_tk 6 rfl ?_; (try simp only [Act.put, nY, nX])); (refine' anyT_tk 7 rfl ?_; (try simp only [Act.put, nY, nX])); (refine' anyT_tk 8 rfl ?_; (try simp only [Act.put, nY, nX]))
       clear hHeld hS
       (refine anyT_sp 9 rfl (fun K' hK' => ?_); simp only [nY]; go_simp)
       have hbd : Below w9.heap.size w9 w9.drew := (Below.refl _ _).drew
       refine (wEqual_c A7 A9 n7 n9 c7 c9 x x w9.drew (HX9.out.below hbd rr) (HW9.out.below hbd rr)).mono ?_
       rw [decide_eq_true rfl]
       rintro e wa ⟨rfl, hbe⟩
       rw [World.size_drew] at hbe
       have hba := hbd.trans hbe
       have HPa := hI (HP9.out.below hba)
       have HTa := hI (HT9.out.below hba)
       have HBa := hI (HB9.out.trans (hba.mono HB9.out.size))
       have HLa := hI (HL9.out.trans (hba.mono HL9.out.size))
       have HXa := hI (HX9.out.below hba rr)
       have HCa := hI ((hba.cell (p := ⟨b8, 0, none⟩) HZ9.out).trans HC9.out)
       have HZa : Hid (b8 < wa.heap.size) := Nat.lt_of_lt_of_le HZ9.out hba.size
       have hS : wa.cell? ⟨bp, 0, none⟩ = some (.slice Ap n cp) ∧ wa.cell? ⟨bp, 1, none⟩ = some (.slice Aq n cq) ∧ wa.cell? ⟨b8, 0, none⟩ = some (.slice A7 n7 c7) := ⟨HPa.out.c0, HPa.out.c1, HCa.out⟩
       clear hbd hbe hba HP9 HT9 HB9 HL9 HX9 HC9 HZ9 HW9
       refine hK' _ _ ⟨.inr hS, fun _ => ?_⟩
       clear hK' K'
       (try simp only [Act.put, nY, nX])
       (refine' anyT_tk 10 rfl ?_; (try simp only [Act.put, nY, nX])); (refine' anyT_tk 11 rfl ?_; (try simp only [Act.put, nY, nX])); (refine' anyT_tk 12 rfl ?_; (try simp only [Act.put, nY, nX])); (refine' anyT_tk 13 rfl ?_; (try simp only [Act.put, nY, nX])); (refine' anyT_tk 14 rfl ?_; (try simp only [Act.put, nY, nX])); (refine' anyT_tk 15 rfl ?_; (try simp only [Act.put, nY, nX])); (refine' anyT_tk 16 rfl ?_; (try simp only [Act.put, nY, nX])); (refine' anyT_tk 17 rfl ?_; (try simp only [Act.put, nY, nX])); (refine' anyT_tk 18 rfl ?_; (try simp only [Act.put, nY, nX])); (refine' anyT_tk 19 rfl ?_; (try simp only [Act.put, nY, nX])); (refine' anyT_tk 20 rfl ?_; (try simp only [Act.put, nY, nX])); (refine' anyT_tk 21 rfl ?_; (try simp only [Act.put, nY, nX])); (refine' anyT_tk 22 rfl ?_; (try simp only [Act.put, nY, nX])); (refine' anyT_tk 23 rfl ?_; (try simp only [Act.put, nY, nX])); (refine' anyT_tk 24 rfl ?_; (try simp only [Act.put, nY, nX])); (refine' anyT_tk 25 rfl ?_; (try simp only [Act.put, nY, nX])); (refine' anyT_tk 26 rfl ?_; (try simp only [Act.put, nY, nX])); (refine' anyT_tk 27 rfl ?_; (try simp only [Act.put, nY, nX])); (refine' anyT_tk 28 rfl ?_; (try simp only [Act.put, nY, nX])); (refine' anyT_tk 29 rfl ?_; (try simp only [Act.put, nY, nX])); (refine' anyT_tk 30 rfl ?_; (try simp only [Act.put, nY, nX]))
       clear hS
       (refine anyT_sp 31 rfl (fun K' hK' => ?_); simp only [nY]; go_simp)
       refine (sooner11_c Ap Aq n n cp cq x1 x2 wa HPa.out.p HPa.out.q).mono ?_
       rw [HSO.out]
       rintro e wb ⟨rfl, hbb⟩
       have HPb := hI (HPa.out.below hbb)
       have HTb := hI (HTa.out.below hbb)
       have HBb := hI (HBa.out.trans (hbb.mono HBa.out.size))
       have HLb := hI (HLa.out.trans (hbb.mono HLa.out.size))
       have HXb := hI (HXa.out.below hbb rr)
       have HCb := hI ((hbb.cell (p := ⟨b8, 0, none⟩) HZa.out).trans HCa.out)
       have HZb : Hid (b8 < wb.heap.size) := Nat.lt_of_lt_of_le HZa.out hbb.size
       have HQB : Hid (wa.heap.size ≤ wb.heap.size) := hbb.size
       have hS : wb.cell? ⟨bp, 0, none⟩ = some (.slice Ap n cp) ∧ wb.cell? ⟨bp, 1, none⟩ = some (.slice Aq n cq) ∧ wb.cell? ⟨b8, 0, none⟩ = some (.slice A7 n7 c7) := ⟨HPb.out.c0, HPb.out.c1, HCb.out⟩
       clear hbb HPa HTa HBa HLa HXa HCa HZa
       refine hK' _ _ ⟨.inr hS, fun _ => ?_⟩
       clear hK' K'
       (try simp only [Act.put, nY, nX])
       (refine' anyT_tk 32 rfl ?_; (try simp only [Act.put, nY, nX])); (refine' anyT_tk 33 rfl ?_; (try simp only [Act.put, nY, nX])); (refine' anyT_tk 34 rfl ?_; (try simp only [Act.put, nY, nX])); (refine' anyT_tk 35 rfl ?_; (try simp only [Act.put, nY, nX])); (refine' anyT_tk 36 rfl ?_; (try simp only [Act.put, nY, nX])); (refine' anyT_tk 37 rfl ?_; (try simp only [Act.put, nY, nX]))
       rw [show decide (0 < j) = false from decide_eq_false (by omega)]
       refine' anyT_take (i := 38) (v := undef) rfl (by as_aux_lemma => kernel_rfl) (by as_aux_lemma => kernel_rfl) (by as_aux_lemma => kernel_rfl) (by as_aux_lemma => kernel_rfl) (fun _ _ _ h => h) (Or.inr ⟨by as_aux_lemma => kernel_rfl, rfl⟩) hS ?_
       (try simp only [Act.put, nY, nX])
       refine' anyT_take (i := 39) (v := undef) rfl (by as_aux_lemma => kernel_rfl) (by as_aux_lemma => kernel_rfl) (by as_aux_lemma => kernel_rfl) (by as_aux_lemma => kernel_rfl) (fun _ _ _ h => h) (Or.inr ⟨by as_aux_lemma => kernel_rfl, rfl⟩) hS ?_
       (try simp only [Act.put, nY, nX])
       refine' anyT_take (i := 40) (v := undef) rfl (by as_aux_lemma => kernel_rfl) (by as_aux_lemma => kernel_rfl) (by as_aux_lemma => kernel_rfl) (by as_aux_lemma => kernel_rfl) (fun _ _ _ h => h) (Or.inr ⟨by as_aux_lemma => kernel_rfl, rfl⟩) hS ?_
       (try simp only [Act.put, nY, nX])
       refine' anyT_take (i := 41) (v := undef) rfl (by as_aux_lemma => kernel_rfl) (by as_aux_lemma => kernel_rfl) (by as_aux_lemma => kernel_rfl) (by as_aux_lemma => kernel_rfl) (fun _ _ _ h => h) (Or.inr ⟨by as_aux_lemma => kernel_rfl, rfl⟩) hS ?_
       (try simp only [Act.put, nY, nX])
       refine' anyT_take (i := 42) (v := undef) rfl (by as_aux_lemma => kernel_rfl) (by as_aux_lemma => kernel_rfl) (by as_aux_lemma => kernel_rfl) (by as_aux_lemma => kernel_rfl) (fun _ _ _ h => h) (Or.inr ⟨by as_aux_lemma => kernel_rfl, rfl⟩) hS ?_
       (try simp only [Act.put, nY, nX])
       refine' anyT_take (i := 43) (v := undef) rfl (by as_aux_lemma => kernel_rfl) (by as_aux_lemma => kernel_rfl) (by as_aux_lemma => kernel_rfl) (by as_aux_lemma => kernel_rfl) (fun _ _ _ h => h) (Or.inr ⟨by as_aux_lemma => kernel_rfl, rfl⟩) hS ?_
       (try simp only [Act.put, nY, nX])
       refine' anyT_take (i := 44) (v := undef) rfl (by as_aux_lemma => kernel_rfl) (by as_aux_lemma => kernel_rfl) (by as_aux_lemma => kernel_rfl) (by as_aux_lemma => kernel_rfl) (fun _ _ _ h => h) (Or.inr ⟨by as_aux_lemma => kernel_rfl, rfl⟩) hS ?_
       (try simp only [Act.put, nY, nX])
       refine' anyT_take (i := 45) (v := undef) rfl (by as_aux_lemma => kernel_rfl) (by as_aux_lemma => kernel_rfl) (by as_aux_lemma => kernel_rfl) (by as_aux_lemma => kernel_rfl) (fun _ _ _ h => h) (Or.inr ⟨by as_aux_lemma => kernel_rfl, rfl⟩) hS ?_
       (try simp only [Act.put, nY, nX])
       refine' anyT_take (i := 46) (v := undef) rfl (by as_aux_lemma => kernel_rfl) (by as_aux_lemma => kernel_rfl) (by as_aux_lemma => kernel_rfl) (by as_aux_lemma => kernel_rfl) (fun _ _ _ h => h) (Or.inr ⟨by as_aux_lemma => kernel_rfl, rfl⟩) hS ?_
       (try simp only [Act.put, nY, nX])
       refine' anyT_take (i := 47) (v := undef) rfl (by as_aux_lemma => kernel_rfl) (by as_aux_lemma => kernel_rfl) (by as_aux_lemma => kernel_rfl) (by as_aux_lemma => kernel_rfl) (fun _ _ _ h => h) (Or.inr ⟨by as_aux_lemma => kernel_rfl, rfl⟩) hS ?_
       (try simp only [Act.put, nY, nX])
       (refine' anyT_tk 48 rfl ?_; (try simp only [Act.put, nY, nX]))
       (refine anyT_sp 49 rfl (fun K' hK' => ?_); simp only [nY]; go_simp)
       refine hK' _ _ ⟨.inl (by kernel_rfl), fun _ => anyT_done (by kernel_rfl) ?_ _⟩
       clear hK' K' hS
       have hc := HCb.out
       go_wp2_with fail
       refine (has_word HEN.out loses1_c Ai ni ci _ b8 A7 n7 c7 x wb HTb.out.i HZb.out hc HXb.out HXI.out).mono ?_
       rintro e wf ⟨rfl, hbf⟩
       have hBF := HLb.out.trans (hbf.mono HLb.out.size)
       go_wp2
       go_roundw
       case rel => exact ⟨j + 1, by go_num, by omega, hBF⟩
       case measure => simp [intOf]; omega
      ·have hj1 : (0 : Int) < (j : Int) := by omega
       obtain ⟨jm, hjm⟩ : ∃ jm, j = jm + 1 := ⟨j - 1, by omega⟩
       have hltl : jm < ps.length := by rw [HT9.out.p.1.2]; omega
       obtain ⟨s2, hsk⟩ : ∃ s2, s2 = ps[jm] := ⟨_, rfl⟩
       have hsj : ps[jm]? = some s2 := by rw [hsk]; exact List.getElem?_eq_getElem hltl
       obtain ⟨b2, off2, eA, hbl, _, hc1⟩ := HT9.out.p.at2 hsj
       cases eA
       have hLOj : LO[jm]? = some s2.data := by have h2 : ps.map PairR.data = LO := HPD.out; rw [← h2, List.getElem?_map, hsj]; rfl
       obtain ⟨_, hwq⟩ := HT9.out.p.2 _ (List.mem_of_getElem? hsj)
       obtain ⟨pp, ⟨Ar, nr, cr, x3⟩⟩ := s2
       have hwq : IsWord w9 Ar nr cr x3 := hwq
       have HZ2 : Hid (b < w9.heap.size) := hbl
       have HC2 : Hid (w9.cell? ⟨b, off + jm * 2 + 1, none⟩ = some (.slice Ar nr cr)) := hc1
       have HSP : Hid (soonerM x3 x2 = true) := pairwise_at HLS.out (show jm < j by omega) (by rw [List.getElem?_map, hLOj]; rfl) (by rw [List.getElem?_map, HLJ.out]; rfl)
       have hsub : IntKind.i64.wrap ((j : Int) - 1) = (jm : Int) := by rw [IntWalk.i64_in _ (by omega)]; omega
       have hjmi : (jm : Int) < (nl : Int) := by omega
       have HWR := hI hwq
       clear hltl hsk hsj hbl hc1 hLOj hwq hjm hj0
       have hS : w9.cell? ⟨bp, 0, none⟩ = some (.slice Ap n cp) ∧ w9.cell? ⟨bp, 1, none⟩ = some (.slice Aq n cq) ∧ w9.cell? ⟨b8, 0, none⟩ = some (.slice A7 n7 c7) ∧ w9.cell? ⟨b, off + jm * 2 + 1, none⟩ = some (.slice Ar nr cr) := ⟨HP9.out.c0, HP9.out.c1, HC9.out, HC2.out⟩
       refine plain_region (fun W' => W'.cell? ⟨bp, 0, none⟩ = some (.slice Ap n cp) ∧ W'.cell? ⟨bp, 1, none⟩ = some (.slice Aq n cq) ∧ W'.cell? ⟨b8, 0, none⟩ = some (.slice A7 n7 c7) ∧ W'.cell? ⟨b, off + jm * 2 + 1, none⟩ = some (.slice Ar nr cr)) (by kernel_rfl) hS (fun hHeld => ?_)
       (refine' anyT_tk 0 rfl ?_; (try simp only [Act.put, nY, nX])); (refine' anyT_tk 1 rfl ?_; (try simp only [Act.put, nY, nX])); (refine' anyT_tk 2 rfl ?_; (try simp only [Act.put, nY, nX])); (refine' anyT_tk 3 rfl ?_; (try simp only [Act.put, nY, nX])); (refine' anyT_tk 4 rfl ?_; (try simp only [Act.put, nY, nX])); (refine' anyT_tk 5 rfl ?_; (try simp only [Act.put, nY, nX])); (refine' anyT_tk 6 rfl ?_; (try simp only [Act.put, nY, nX])); (refine' anyT_tk 7 rfl ?_; (try simp only [Act.put, nY, nX])); (refine' anyT_tk 8 rfl ?_; (try simp only [Act.put, nY, nX]))
       clear hHeld hS
       (refine anyT_sp 9 rfl (fun K' hK' => ?_); simp only [nY]; go_simp)
       have hbd : Below w9.heap.size w9 w9.drew := (Below.refl _ _).drew
       refine (wEqual_c A7 A9 n7 n9 c7 c9 x x w9.drew (HX9.out.below hbd rr) (HW9.out.below hbd rr)).mono ?_
       rw [decide_eq_true rfl]
       rintro e wa ⟨rfl, hbe⟩
       rw [World.size_drew] at hbe
       have hba := hbd.trans hbe
       have HPa := hI (HP9.out.below hba)
       have HTa := hI (HT9.out.below hba)
       have HBa := hI (HB9.out.trans (hba.mono HB9.out.size))
       have HLa := hI (HL9.out.trans (hba.mono HL9.out.size))
       have HXa := hI (HX9.out.below hba rr)
       have HCa := hI ((hba.cell (p := ⟨b8, 0, none⟩) HZ9.out).trans HC9.out)
       have HZa : Hid (b8 < wa.heap.size) := Nat.lt_of_lt_of_le HZ9.out hba.size
       have HC2a := hI ((hba.cell (p := ⟨b, off + jm * 2 + 1, none⟩) HZ2.out).trans HC2.out); have HZ2a : Hid (b < wa.heap.size) := Nat.lt_of_lt_of_le HZ2.out hba.size; have HWRa := hI (HWR.out.below hba rr)
       have hS : wa.cell? ⟨bp, 0, none⟩ = some (.slice Ap n cp) ∧ wa.cell? ⟨bp, 1, none⟩ = some (.slice Aq n cq) ∧ wa.cell? ⟨b8, 0, none⟩ = some (.slice A7 n7 c7) ∧ wa.cell? ⟨b, off + jm * 2 + 1, none⟩ = some (.slice Ar nr cr) := ⟨HPa.out.c0, HPa.out.c1, HCa.out, HC2a.out⟩
       clear hbd hbe hba HP9 HT9 HB9 HL9 HX9 HC9 HZ9 HW9
       refine hK' _ _ ⟨.inr hS, fun _ => ?_⟩
       clear hK' K'
       (try simp only [Act.put, nY, nX])
       (refine' anyT_tk 10 rfl ?_; (try simp only [Act.put, nY, nX])); (refine' anyT_tk 11 rfl ?_; (try simp only [Act.put, nY, nX])); (refine' anyT_tk 12 rfl ?_; (try simp only [Act.put, nY, nX])); (refine' anyT_tk 13 rfl ?_; (try simp only [Act.put, nY, nX])); (refine' anyT_tk 14 rfl ?_; (try simp only [Act.put, nY, nX])); (refine' anyT_tk 15 rfl ?_; (try simp only [Act.put, nY, nX])); (refine' anyT_tk 16 rfl ?_; (try simp only [Act.put, nY, nX])); (refine' anyT_tk 17 rfl ?_; (try simp only [Act.put, nY, nX])); (refine' anyT_tk 18 rfl ?_; (try simp only [Act.put, nY, nX])); (refine' anyT_tk 19 rfl ?_; (try simp only [Act.put, nY, nX])); (refine' anyT_tk 20 rfl ?_; (try simp only [Act.put, nY, nX])); (refine' anyT_tk 21 rfl ?_; (try simp only [Act.put, nY, nX])); (refine' anyT_tk 22 rfl ?_; (try simp only [Act.put, nY, nX])); (refine' anyT_tk 23 rfl ?_; (try simp only [Act.put, nY, nX])); (refine' anyT_tk 24 rfl ?_; (try simp only [Act.put, nY, nX])); (refine' anyT_tk 25 rfl ?_; (try simp only [Act.put, nY, nX])); (refine' anyT_tk 26 rfl ?_; (try simp only [Act.put, nY, nX])); (refine' anyT_tk 27 rfl ?_; (try simp only [Act.put, nY, nX])); (refine' anyT_tk 28 rfl ?_; (try simp only [Act.put, nY, nX])); (refine' anyT_tk 29 rfl ?_; (try simp only [Act.put, nY, nX])); (refine' anyT_tk 30 rfl ?_; (try simp only [Act.put, nY, nX]))
       clear hS
       (refine anyT_sp 31 rfl (fun K' hK' => ?_); simp only [nY]; go_simp)
       refine (sooner11_c Ap Aq n n cp cq x1 x2 wa HPa.out.p HPa.out.q).mono ?_
       rw [HSO.out]
       rintro e wb ⟨rfl, hbb⟩
       have HPb := hI (HPa.out.below hbb)
       have HTb := hI (HTa.out.below hbb)
       have HBb := hI (HBa.out.trans (hbb.mono HBa.out.size))
       have HLb := hI (HLa.out.trans (hbb.mono HLa.out.size))
       have HXb := hI (HXa.out.below hbb rr)
       have HCb := hI ((hbb.cell (p := ⟨b8, 0, none⟩) HZa.out).trans HCa.out)
       have HZb : Hid (b8 < wb.heap.size) := Nat.lt_of_lt_of_le HZa.out hbb.size
       have HC2b := hI ((hbb.cell (p := ⟨b, off + jm * 2 + 1, none⟩) HZ2a.out).trans HC2a.out); have HWRb := hI (HWRa.out.below hbb rr)
       have HQB : Hid (wa.heap.size ≤ wb.heap.size) := hbb.size
       have hS : wb.cell? ⟨bp, 0, none⟩ = some (.slice Ap n cp) ∧ wb.cell? ⟨bp, 1, none⟩ = some (.slice Aq n cq) ∧ wb.cell? ⟨b8, 0, none⟩ = some (.slice A7 n7 c7) ∧ wb.cell? ⟨b, off + jm * 2 + 1, none⟩ = some (.slice Ar nr cr) := ⟨HPb.out.c0, HPb.out.c1, HCb.out, HC2b.out⟩
       clear hbb HPa HTa HBa HLa HXa HCa HZa
       refine hK' _ _ ⟨.inr hS, fun _ => ?_⟩
       clear hK' K'
       (try simp only [Act.put, nY, nX])
       (refine' anyT_tk 32 rfl ?_; (try simp only [Act.put, nY, nX])); (refine' anyT_tk 33 rfl ?_; (try simp only [Act.put, nY, nX])); (refine' anyT_tk 34 rfl ?_; (try simp only [Act.put, nY, nX])); (refine' anyT_tk 35 rfl ?_; (try simp only [Act.put, nY, nX])); (refine' anyT_tk 36 rfl ?_; (try simp only [Act.put, nY, nX])); (refine' anyT_tk 37 rfl ?_; (try simp only [Act.put, nY, nX]))
       rw [show decide (0 < j) = true from decide_eq_true (by omega)]
       (refine' anyT_tk 38 rfl ?_; (try simp only [Act.put, nY, nX])); (refine' anyT_tk 39 rfl ?_; (try simp only [Act.put, nY, nX])); (refine' anyT_tk 40 rfl ?_; (try simp only [Act.put, nY, nX])); (refine' anyT_tk 41 rfl ?_; (try simp only [Act.put, nY, nX])); (refine' anyT_tk 42 rfl ?_; (try simp only [Act.put, nY, nX])); (refine' anyT_tk 43 rfl ?_; (try simp only [Act.put, nY, nX])); (refine' anyT_tk 44 rfl ?_; (try simp only [Act.put, nY, nX])); (refine' anyT_tk 45 rfl ?_; (try simp only [Act.put, nY, nX]))
       clear hS
       (refine anyT_sp 46 rfl (fun K' hK' => ?_); simp only [nY]; go_simp)
       refine (sooner11_c Ar Aq nr n cr cq x3 x2 wb HWRb.out HPb.out.q).mono ?_
       rw [HSP.out]
       rintro e wc ⟨rfl, hbb⟩
       have HPc := hI (HPb.out.below hbb)
       have HTc := hI (HTb.out.below hbb)
       have HLc := hI (HLb.out.trans (hbb.mono HLb.out.size))
       have HXc := hI (HXb.out.below hbb rr)
       have HCc := hI ((hbb.cell (p := ⟨b8, 0, none⟩) HZb.out).trans HCb.out)
       have HZc : Hid (b8 < wc.heap.size) := Nat.lt_of_lt_of_le HZb.out hbb.size
       have hS : wc.cell? ⟨bp, 0, none⟩ = some (.slice Ap n cp) ∧ wc.cell? ⟨bp, 1, none⟩ = some (.slice Aq n cq) ∧ wc.cell? ⟨b8, 0, none⟩ = some (.slice A7 n7 c7) ∧ wc.cell? ⟨b, off + jm * 2 + 1, none⟩ = some (.slice Ar nr cr) := ⟨HPc.out.c0, HPc.out.c1, HCc.out, (hbb.cell (p := ⟨b, off + jm * 2 + 1, none⟩) (Nat.lt_of_lt_of_le HZ2a.out HQB.out)).trans HC2b.out⟩
       clear hbb HPb HTb HBb HLb HXb HCb HZb
       refine hK' _ _ ⟨.inr hS, fun _ => ?_⟩
       clear hK' K'
       (try simp only [Act.put, nY, nX])
       (refine' anyT_tk 47 rfl ?_; (try simp only [Act.put, nY, nX])); (refine' anyT_tk 48 rfl ?_; (try simp only [Act.put, nY, nX]))
       (refine anyT_sp 49 rfl (fun K' hK' => ?_); simp only [nY]; go_simp)
       refine hK' _ _ ⟨.inl (by kernel_rfl), fun _ => anyT_done (by kernel_rfl) ?_ _⟩
       clear hK' K' hS
       have hc := HCc.out
       go_wp2_with fail
       refine (has_word HEN.out loses1_c Ai ni ci _ b8 A7 n7 c7 x wc HTc.out.i HZc.out hc HXc.out HXI.out).mono ?_
       rintro e wf ⟨rfl, hbf⟩
       have hBF := HLc.out.trans (hbf.mono HLc.out.size)
       go_wp2
       go_roundw
       case rel => exact ⟨j + 1, by go_num, by omega, hBF⟩
       case measure => simp [intOf]; omega
     ·obtain rfl : nl = j := by omega
      obtain ⟨w6, hw6⟩ : ∃ w6 : World, w6 = wr := ⟨_, rfl⟩
      rw [← hw6] at HT6 HBW ⊢
      have HS6 := hI HT6.out.s
      have HY6 := hI HT6.out.y
      have HB6 := HBW
      have hB6s := HB6.out.size
      clear hB HBW HT6 hj hlt HTR HB5 hB5s
      obtain ⟨tot, htot⟩ : ∃ tot, tot = k ^ n := ⟨_, rfl⟩
      have ht625 : tot ≤ 625 := by rw [htot]; exact HPW.out n hn4
      have HTOT := hI htot; clear htot
      go_wp2
      go_loopw [23, 160] (fun v23 v160 wr => ∃ j t : Nat, v160 = .int .i64 j ∧ v23 = .int .i64 t ∧ j ≤ n ∧ Hid (t = k ^ j) ∧ Below w6.heap.size w6 wr) (fun _ v160 _ => n - (intOf v160).toNat)
      case atStart => exact ⟨0, 1, rfl, rfl, Nat.zero_le _, by simp [Hid], (by first | exact Below.refl _ _ | (rw [hw6]; exact Below.refl _ _))⟩
      case round =>
       clear hw6
       obtain ⟨j, t, rfl, rfl, hj, ht, hB⟩ := hrel
       by_cases hlt : j < n
       ·have hlt' : (j : Int) < (n : Int) := by omega
        obtain ⟨t2, ht2⟩ : ∃ t2, t2 = k ^ (j + 1) := ⟨_, rfl⟩
        have ht6 : t2 ≤ 625 := by rw [ht2]; exact HPW.out (j + 1) (by omega)
        have hmul : IntKind.i64.wrap ((t : Int) * (k : Int)) = (t2 : Int) := by
         have e : t2 = t * k := by rw [ht2, ht.out, Nat.pow_succ]
         have e2 : (t : Int) * (k : Int) = (t2 : Int) := by rw [e]; exact (Int.natCast_mul t k).symm
         rw [e2]; exact IntWalk.i64_in _ (by omega)
        have HT2 : Hid (t2 = k ^ (j + 1)) := ht2
        clear ht2
        go_wp2
        go_roundw
        case rel => exact ⟨j + 1, t2, by go_num, rfl, by omega, HT2, hB⟩
        case measure => simp [intOf]; omega
       ·obtain rfl : n = j := by omega
        have htt : t = tot := by rw [ht.out, HTOT.out]
        subst htt
        clear ht hlt hj
        obtain ⟨w7, hw7⟩ : ∃ w7 : World, w7 = wr := ⟨_, rfl⟩
        rw [← hw7] at hB ⊢
        have HB7 := hI hB
        clear hB
        go_wp2
        go_loopw [22, 24, 25, 26, 27, 28, 167] (fun v22 _ _ _ _ _ v167 wr => ∃ i wn : Nat, v167 = .int .i64 i ∧ v22 = .int .i64 wn ∧ i ≤ t ∧ wn ≤ i ∧ Hid (wn = ((List.range i).filter pr).length) ∧ Below w6.heap.size w6 wr) (fun _ _ _ _ _ _ v167 _ => t - (intOf v167).toNat)
        case atStart => exact ⟨0, 0, rfl, rfl, Nat.zero_le _, rr, by simp [Hid], (by first | exact HB7.out | (rw [← hw7]; exact HB7.out))⟩
        case round =>
         clear hw7
         obtain ⟨i, wn, rfl, rfl, hi, hwi, hwn, hB⟩ := hrel
         have hBs := hB.size
         by_cases hit : i < t
         ·have hit' : (i : Int) < (t : Int) := by omega
          obtain ⟨wo, hwo⟩ : ∃ wo : World, wo = wr := ⟨_, rfl⟩
          rw [← hwo] at hB hBs ⊢
          have HB := hI hB; clear hB
          go_wp2
          go_loopw [25, 26] (fun v25 v26 wr => ∃ m R : Nat, v26 = .int .i64 R ∧ m ≤ n ∧ Hid (R = i / k ^ m) ∧ R ≤ i ∧ Hid (wr.ownsRow wo.heap.size 24 2 v25 m (wcells (lsd (alpha5.take k) m i))) ∧ Below wo.heap.size wo wr) (fun v25 _ _ => n - slN v25)
          case atStart => exact ⟨0, i, rfl, Nat.zero_le _, by simp [Hid], rr, World.ownsRow_nil _ _ _ _, (by first | exact Below.refl _ _ | (rw [hwo]; exact Below.refl _ _))⟩
          case round =>
           clear hwo
           obtain ⟨m, R, rfl, hm, hR, hRi, hown, hBo⟩ := hrel
           obtain ⟨A14, c14, rfl⟩ := own_form hown.out
           have hBos := hBo.size
           by_cases hmn : m < n
           ·have hmn' : (m : Int) < (n : Int) := by omega
            have hk0 : 0 < k := by
             rcases Nat.eq_zero_or_pos k with h | h
             ·have h2 := HTOT.out; rw [h, Nat.zero_pow (by omega)] at h2; omega
             ·exact h
            obtain ⟨r2, hr2⟩ : ∃ r2, r2 = R % k := ⟨_, rfl⟩
            have hrk : r2 < k := by rw [hr2]; exact Nat.mod_lt _ hk0
            obtain ⟨R2, hR2⟩ : ∃ R2, R2 = R / k := ⟨_, rfl⟩
            have hR2i : R2 ≤ R := by rw [hR2]; exact Nat.div_le_self _ _
            have hmodk : ((R : Int) % (k : Int)) = (r2 : Int) := by rw [hr2]; omega
            have htmk : Int.tmod (R : Int) (k : Int) = (r2 : Int) := by rw [Int.tmod_eq_emod_of_nonneg (by omega)]; exact hmodk
            have hdivk : ((R : Int) / (k : Int)) = (R2 : Int) := by rw [hR2]; omega
            have htdk : Int.tdiv (R : Int) (k : Int) = (R2 : Int) := by rw [Int.tdiv_eq_ediv_of_nonneg (by omega)]; exact hdivk
            have hwR2 : IntKind.i64.wrap (R2 : Int) = (R2 : Int) := IntWalk.i64_in _ (by omega)
            have hk4 : ¬ k = 0 := by omega
            have hri : (r2 : Int) < (k : Int) := by omega
            obtain ⟨b1, off1, p1, m1, eA, hb1, hsk, hc0, hc1⟩ := (HS6.out.below (HB.out.trans (hBo.mono hBs)) rr).at_ hrk
            cases eA
            simp only [Nat.zero_add] at hc0 hc1
            have HST : Hid (lsd (alpha5.take k) (m + 1) i = lsd (alpha5.take k) m i ++ [(p1, m1)]) := by
             show _ = _
             rw [lsd_snoc, HLEN.out, ← hR.out, ← hr2, List.getD_eq_getElem?_getD, hsk]; rfl
            have HR2 : Hid (R2 = i / k ^ (m + 1)) := by show _ = _; rw [hR2, hR.out, Nat.div_div_eq_div_mul, ← Nat.pow_succ]
            have HOWN := hI hown.out
            clear hr2 hR2 hsk hown hR
            go_wp2_with (at_builtin; go_loud (refine append_snd rfl (.tmp 178) (.tmp 185) rfl _ _ _ _ rfl (HOWN.out.alloc _) (some ⟨wr.heap.size, 0, none⟩) 1 1 [(p1, m1)] rfl (word_one wr p1 m1 24) (by omega) (by simp; omega) ?h7))
            case h7 =>
             intro v9 w9 hown9 hg9 _
             obtain ⟨A9, c9, rfl⟩ := own_form hown9
             have hB9 : Below wo.heap.size wo w9 := (hBo.alloc hBos _).grown hg9 (by simp; omega) (fun q hq => (HOWN.out.lt q hq).1)
             have HOWN9 : Hid (w9.ownsRow wo.heap.size 24 2 (.slice A9 (m + 1) c9) (m + 1) (wcells (lsd (alpha5.take k) (m + 1) i))) := by rw [HST.out]; exact hown9
             clear hown9 hg9 HOWN
             go_wp2
             go_roundw
             case rel => exact ⟨m + 1, R2, rfl, by omega, HR2, by omega, HOWN9, hB9⟩
             case measure => simp [slN]; omega
           ·obtain rfl : n = m := by omega
            have HW := hI (show IsWord wr A14 n c14 (lsd (alpha5.take k) n i) from Cells.of_own hown.out (by decide))
            have HBX : Hid (Below w6.heap.size w6 wr) := HB.out.trans (hBo.mono hBs)
            have hBX := HB6.out.trans (HBX.out.mono hB6s)
            have HPI : Hid (pr i = decide ((deriveM (lawsD ys) (lsd (alpha5.take k) n i)).1 = 0)) := by show _ = _; rw [HPR.out]
            clear hown hBo hR
            go_wp2_with fail
            refine (derive_c A1 n1 c1 ys A14 n c14 _ wr (HY6.out.below HBX.out rr) HW.out (HT.out.below hBX rr)).mono ?_
            obtain ⟨e2, he2⟩ : ∃ e2, e2 = deriveM (lawsD ys) (lsd (alpha5.take k) n i) := ⟨_, rfl⟩
            rw [← he2] at HPI ⊢
            rintro e w9 ⟨A9, n9, c9, rfl, hw9, hb9, _⟩
            have hB9 : Below w6.heap.size w6 w9 := HBX.out.trans (hb9.mono HBX.out.size)
            clear hb9 hBX he2 hw9
            by_cases g1 : e2.1 = 0
            ·have g1' : (e2.1 == 0) = true := by simpa using g1
             have HN : Hid (wn + 1 = ((List.range (i + 1)).filter pr).length) := by
              show _ = _
              rw [range_yes (by rw [HPI.out]; exact decide_eq_true g1), ← hwn.out]
             clear g1
             go_wp2
             go_roundw
             case rel => exact ⟨i + 1, wn + 1, by go_num, by go_num, by omega, by omega, HN, hB9⟩
             case measure => simp [intOf]; omega
            ·have g1' : (e2.1 == 0) = false := by simpa using g1
             have HN : Hid (wn = ((List.range (i + 1)).filter pr).length) := by
              show _ = _
              rw [range_no (by rw [HPI.out]; exact decide_eq_false g1)]; exact hwn.out
             clear g1
             go_wp2
             go_roundw
             case rel => exact ⟨i + 1, wn, by go_num, rfl, by omega, by omega, HN, hB9⟩
             case measure => simp [intOf]; omega
         ·obtain rfl : t = i := by omega
          have hBF := HB6.out.trans (hB.mono hB6s)
          have hsum0 : ni + nl = wn := by rw [← HIN.out, ← HLN.out, HTO.out, ← HTOT.out]; exact hwn.out.symm
          have hsum : IntKind.i64.wrap ((ni : Int) + (nl : Int)) = (wn : Int) := by rw [IntWalk.i64_in _ (by omega)]; omega
          have hww : ((wn : Int) == (wn : Int)) = true := by simp
          clear hsum0
          go_wp2_with fail
          refine (works11_c _ (HT.out.below hBF rr)).mono ?_
          rintro e wz ⟨rfl, hbz⟩
          go_wp2
          go_ret
          exact ⟨rfl, Below.trans hBF (hbz.mono (Below.size hBF))⟩
end Go.Proofs.YtlgliddhideflaaGreatDoor

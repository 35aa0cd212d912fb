/-
  ablautlaw11.InverseNothing is true (also where it calls itself).
-/
import Derived.Test.YtlgliddhideflaaGreatDoorXT119
set_option linter.all false
set_option maxRecDepth 100000
set_option maxHeartbeats 4000000
namespace Go.Proofs.YtlgliddhideflaaGreatDoor
open Go.RowKit Go.Shelf
theorem nothing_c (a : Int) (ha0 : 0 ≤ a) (ha1 : a ≤ 255) (Al : Option Addr) (nl cl : Nat) (l : List Nat) (a2 : Int) (h20 : 0 ≤ a2) (h21 : a2 ≤ 255) (w : World) (hl : IsBytes w Al nl cl l) (hT : TabOK w) :
  Calls Tryz.prog 12 #[.int .u8 a, .slice Al nl cl, .int .u8 a2] w (RetTrue w) := by
 obtain ⟨p, rfl⟩ : ∃ p : Nat, a = p := ⟨a.toNat, by omega⟩
 obtain ⟨q, rfl⟩ : ∃ q : Nat, a2 = q := ⟨a2.toNat, by omega⟩
 by_cases hg : p % 6 = 5 → ∀ x, l[0]? = some x → x % 8 = 0
 ·exact nothing0_c p (by omega) Al nl cl l q (by omega) w hl hT hg
 have HREC : Hid (∀ W, Below w.heap.size w W → Calls Tryz.prog 12 #[.int .u8 (2 : Nat), .slice Al nl cl, .int .u8 q] W (RetTrue W)) := fun W h =>
  nothing0_c 2 (by omega) Al nl cl l q (by omega) W (hl.below h rr) (hT.below h rr) (fun h => absurd h (by decide))
 obtain ⟨hp5, x, hlx, hx8⟩ : p % 6 = 5 ∧ ∃ x, l[0]? = some x ∧ ¬ x % 8 = 0 := by
  by_cases h5 : p % 6 = 5
  ·refine ⟨h5, ?_⟩
   cases h0 : l[0]? with
   | none => exact absurd (fun _ x hx => by rw [h0] at hx; cases hx) hg
   | some y =>
    refine ⟨y, rfl, fun hy => hg (fun _ x hx => ?_)⟩
    rw [h0] at hx; injection hx with hx; rw [← hx]; exact hy
  ·exact absurd (fun h => absurd h h5) hg
 have HL := hI hl
 have HLX := hI hlx
 have hnl : 0 < nl := by rw [← hl.len]; exact (List.getElem?_eq_some_iff.1 hlx).1
 have hmod : ((p : Int) % 6) = 5 := by omega
 have htm : Int.tmod (p : Int) 6 = 5 := by rw [Int.tmod_eq_emod_of_nonneg (by omega)]; exact hmod
 obtain ⟨r, hr⟩ : ∃ r, r = x % 8 := ⟨_, rfl⟩
 have hr0 : 0 < r := by omega
 have hr8 : r < 8 := by omega
 have hxm : ((x : Int) % 8) = (r : Int) := by omega
 have hxt : Int.tmod (x : Int) 8 = (r : Int) := by rw [Int.tmod_eq_emod_of_nonneg (by omega)]; exact hxm
 have hri : (0 : Int) < (r : Int) := by omega
 have hnl0 : (0 : Int) < (nl : Int) := by omega
 clear hl hT hlx hx8 hr hp5 hg
 go_enter Tryz.func12, Tryz.ntmps12
 go_wp2_with fail
 refine (alphabet_c 5 (by omega) w).mono ?_
 rintro e w1 ⟨rfl, hown1, hB1⟩
 have HS1 : Hid (IsWord w1 (some ⟨w.heap.size, 0, none⟩) 5 5 (alpha5.take 5)) := Cells.of_own hown1 (by decide)
 clear hown1
 obtain ⟨bs, hbs⟩ : ∃ bs, bs = w.heap.size := ⟨_, rfl⟩
 rw [← hbs] at HS1 ⊢
 clear hbs
 go_wp2_with fail
 refine (alphabet_c 5 (by omega) w1).mono ?_
 rintro e w2 ⟨rfl, hown2, hb2⟩
 have hB2 := hB1.trans (hb2.mono hB1.size)
 have HF2 : Hid (IsWord w2 (some ⟨w1.heap.size, 0, none⟩) 5 5 (alpha5.take 5)) := Cells.of_own hown2 (by decide)
 have HS2 := hI (HS1.out.below hb2 rr)
 clear hown2 hb2 HS1
 obtain ⟨bf, hbf⟩ : ∃ bf, bf = w1.heap.size := ⟨_, rfl⟩
 rw [← hbf] at HF2 ⊢
 clear hbf
 go_wp2_with fail
 refine (spelt_c _ 5 5 _ Al nl cl l 10 w2 HF2.out (HL.out.below hB2 rr) (by omega) (by omega)).mono ?_
 obtain ⟨v, hv⟩ : ∃ v, v = speltM (alpha5.take 5) l 10 := ⟨_, rfl⟩
 rw [← hv]
 clear hv HF2
 rintro e w3 ⟨Av, nv, cv, rfl, hwv, hb3, _⟩
 have hB3 := hB2.trans (hb3.mono hB2.size)
 have hmv := hwv.max
 have HV3 := hI hwv
 have HS3 := hI (HS2.out.below hb3 rr)
 have hB3s := hB3.size
 have HB3 := hI hB3
 clear hb3 hwv HS2 hB3 hB2 hB1
 go_wp2_with fail
 go_loopw [10, 35] (fun v10 v35 wr => ∃ (j : Nat) (ib : Bool), v35 = .int .i64 j ∧ v10 = .bool ib ∧ j ≤ nv ∧ Below w3.heap.size w3 wr) (fun _ v35 _ => nv - (intOf v35).toNat)
 case atStart => exact ⟨0, _, rfl, rfl, Nat.zero_le _, Below.refl _ _⟩
 case round =>
  obtain ⟨j, ib, rfl, rfl, hj, hB⟩ := hrel
  have hBs := hB.size
  by_cases hlt : j < nv
  ·have hlt' : (j : Int) < (nv : Int) := by omega
   obtain ⟨b3, off3, p1, m1, rfl, hb3, hsi, hc0, hc1⟩ := (HV3.out.below hB rr).at_ hlt
   have hba : Below wr.heap.size wr (wr.alloc (.cells #[.int .u32 p1, .int .u32 m1] 24)) := (Below.refl _ _).alloc rr _
   have HBa := hI (hB.trans (hba.mono hBs))
   clear hba hsi
   cases ib with
   | false =>
    go_wp2
    go_roundw
    case rel => exact ⟨j + 1, false, by go_num, rfl, by omega, HBa.out⟩
    case measure => simp [intOf]; omega
   | true =>
    go_wp2_with fail
    refine (hasSnd_c _ 5 5 (alpha5.take 5) p1 m1 _ (HS3.out.below HBa.out rr)).mono ?_
    obtain ⟨d, hd⟩ : ∃ d, d = decide ((p1, m1) ∈ alpha5.take 5) := ⟨_, rfl⟩
    rw [← hd]
    clear hd
    rintro e w9 ⟨rfl, hb9⟩
    have hB9 := HBa.out.trans (hb9.mono HBa.out.size)
    clear hb9 HBa
    go_wp2
    go_roundw
    case rel => exact ⟨j + 1, d, by go_num, rfl, by omega, hB9⟩
    case measure => simp [intOf]; omega
  ·obtain rfl : nv = j := by omega
   have HBW : Hid (Below w.heap.size w wr) := HB3.out.trans (hB.mono hB3s)
   obtain ⟨bl, ofl, y, eA, hbl, hly, hy256, hcx⟩ := (HL.out.below HBW.out rr).at_ (k := 0) hnl
   obtain rfl : x = y := Option.some.inj (HLX.out.symm.trans hly)
   simp only [Nat.add_zero] at hcx
   subst eA
   clear hly hlt hj hB hBs
   go_wp2_with fail
   refine (HREC.out wr HBW.out).mono ?_
   rintro e w9 ⟨rfl, hb9⟩
   go_wp2
   go_ret
   exact ⟨rfl, HBW.out.trans (hb9.mono HBW.out.size)⟩
end Go.Proofs.YtlgliddhideflaaGreatDoor

/-
  ablautlaw29.ParadigmStems is true.
-/
import Derived.Test.YtcpcojgmmpnkoaaGreatDoorG70
import Derived.Test.YtcpcojgmmpnkoaaGreatDoorG68
import Derived.Test.YtcpcojgmmpnkoaaGreatDoorG73
import Derived.Test.YtcpcojgmmpnkoaaGreatDoorG67
import Derived.Test.YtcpcojgmmpnkoaaGreatDoorG18
set_option linter.unusedVariables false
set_option linter.unusedSimpArgs false
set_option maxRecDepth 100000
set_option maxHeartbeats 4000000
namespace Go.Proofs.YtcpcojgmmpnkoaaGreatDoor
open Go.RowKit Go.Shelf
structure FTh (B : Nat) (w : World) (A : Option Addr) (n c : Nat) (fs : List FormR) : Prop where
 rw_ : Recs FormR.cells 2 w A n c fs
 ww : ∀ f ∈ fs, ThereP w f.p ∧ (∀ ad, f.p.1 = some ad → B ≤ ad.block) ∧ (∀ ad a, f.p.1 = some ad → A = some a → a.block < ad.block) ∧ (f.p.1 = none → f.p.2.1 = 0) ∧ f.p.2.1 ≤ 9223372036854775807
 ab : ∀ a, A = some a → 0 < n → B ≤ a.block
theorem FTh.below {B : Nat} {w w' : World} {A : Option Addr} {n c : Nat} {fs : List FormR} (h : FTh B w A n c fs) (hb : Below w.heap.size w w') : FTh B w' A n c fs :=
 ⟨h.rw_.below hb rr, fun f hf => ⟨(h.ww f hf).1.below hb, (h.ww f hf).2⟩, h.ab⟩
theorem FTh.set {B : Nat} {w : World} {A : Option Addr} {n c : Nat} {fs : List FormR} (h : FTh B w A n c fs) (g o : Nat) (vs : List Value) (hg : ∀ a, A = some a → 0 < n → a.block ≠ g) : FTh B (w.setCells g o vs) A n c fs := by
 refine ⟨⟨cells_keep (S := fun k => k = g) h.rw_.1 (keep_setCells (S := fun k => k = g) g rfl _ _ _ (Keep.refl _ _)) (fun hn ad had e => hg ad had hn e), h.rw_.2⟩, fun f hf => ⟨(h.ww f hf).1.setCells g o vs, (h.ww f hf).2⟩, h.ab⟩
theorem FTh.of_own {B : Nat} {w : World} {A : Option Addr} {n c : Nat} {fs : List FormR} (h2 : w.ownsRow B 77 2 (.slice A n c) n (fs.flatMap FormR.cells)) (h3 : ∀ f ∈ fs, IsWord w f.p.1 f.p.2.1 f.p.2.2.1 f.p.2.2.2 ∧ (∀ ad, f.p.1 = some ad → B ≤ ad.block) ∧ (∀ ad a, f.p.1 = some ad → A = some a → a.block < ad.block) ∧ ThereP w f.p) : FTh B w A n c fs :=
 ⟨Recs.of_own h2 FormR.len (by decide), fun f hf => ⟨(h3 f hf).2.2.2, (h3 f hf).2.1, (h3 f hf).2.2.1, (fun e => by have h4 := (h3 f hf).1.2.2.2.1 e; have h5 := (h3 f hf).1.2.1; omega), (h3 f hf).1.max⟩, fun a ha _ => own_addr h2 a ha⟩
theorem FTh.cell {B : Nat} {w : World} {b off n c : Nat} {fs : List FormR} (h : FTh B w (some ⟨b, off, none⟩) n c fs) {j : Nat} {f : FormR} (hf : fs[j]? = some f) : w.cell? ⟨b, off + j * 2 + 1, none⟩ = some (.slice f.p.1 f.p.2.1 f.p.2.2.1) := by
 obtain ⟨b', off', hA, _, hc⟩ := h.rw_.at_ FormR.len (by decide) hf
 obtain ⟨rfl, rfl⟩ : b = b' ∧ off = off' := by simpa using hA
 exact hc 1 _ rfl
theorem there_sub {w : World} {g n i : Nat} (h : w.there g 0 (n * 2)) (hi : i < n) : w.there g (i * 2) 2 := fun j hj => by
 have := h (i * 2 + j) (by omega)
 simpa using this
theorem snd_size3 : (Tryz.prog.info? 24).map (·.size) = some (#[Value.int .u32 77, .int .u32 0]).size := by
 show _ = some 2
 kernel_rfl
theorem parStems_c (A : Option Addr) (n c : Nat) (T : List (List Frm)) (row : Int) (w : World) (hx : IsPar w A n c T ∧ ParU T) (hr : -9223372036854775808 ≤ row ∧ row ≤ 9223372036854775807) (hT : TabOK w) :
  Calls Tryz.prog 6 #[.slice A n c, .int .i64 row] w (RetTrue w) := by
 have hmx := hx.1.max
 have HX := hI hx.1
 have HU := hI hx.2
 have HT := hI hT
 have HR := hI hr
 clear hx hT hr
 go_enter Tryz.func6, Tryz.ntmps6
 go_wp2_with fail
 refine (light29_c A n c T w HX.out).mono ?_
 rintro e w1 ⟨⟨b, rfl, hok⟩, hB1⟩
 cases b with
 | false => go_wp2_with fail
            refine (works29_c _ (HT.out.below hB1 rr)).mono ?_
            rintro e w9 ⟨rfl, hbw⟩
            go_wp2
            go_ret
            exact ⟨rfl, hB1.trans (hbw.mono hB1.size)⟩
 | true =>
  have HOK : Hid (LightOK T) := hok rfl
  have HB1 := hI hB1
  clear hok hB1
  go_wp2_with fail
  refine (copied29_c A n c T w1 (HX.out.below HB1.out rr) HOK.out).mono ?_
  rintro e w2 ⟨A2, n2, c2, rfl, hp2, hb2⟩
  have HP2 := hI hp2
  have HB2 := hI (HB1.out.trans (hb2.mono HB1.out.size))
  clear hb2 hp2
  go_wp2_with fail
  refine (r29Stem_c A n c T row w2 (HX.out.below HB2.out rr) HU.out HR.out).mono ?_
  obtain ⟨r1, hr1⟩ : ∃ r, r = pStemM T row := ⟨_, rfl⟩
  rw [← hr1]
  have HR1 := hI hr1; clear hr1
  rintro e w3 ⟨A3, n3, c3, rfl, hi3, hb3, _⟩
  have HI3 := hI hi3
  have HP3 := hI (HP2.out.below hb3 rr)
  have HB3 := hI (HB2.out.trans (hb3.mono HB2.out.size))
  clear hb3 hi3
  go_wp2_with fail
  refine (r29Ends_c A n c T row w3 (HX.out.below HB3.out rr) HU.out HR.out).mono ?_
  obtain ⟨r2, hr2⟩ : ∃ r, r = pEndsM T row := ⟨_, rfl⟩
  rw [← hr2]
  have HR2 := hI hr2; clear hr2
  rintro e w4 ⟨A4, n4, c4, rfl, hi4, hb4⟩
  have HI4 := hI hi4
  have HP4 := hI (HP3.out.below hb4 rr)
  have HI34 := hI (HI3.out.below hb4 rr)
  have HB4 := hI (HB3.out.trans (hb4.mono HB3.out.size))
  clear hb4 hi4
  go_wp2_with fail
  go_loopw [35] (fun vk wr => ∃ k : Nat, vk = .int .i64 k ∧ k ≤ 2 ∧ Below w4.heap.size w4 wr) (fun vk _ => 2 - (intOf vk).toNat)
  case atStart => exact ⟨0, rfl, Nat.zero_le _, Below.refl _ _⟩
  case round =>
   obtain ⟨k, rfl, hk, hB⟩ := hrel
   have hBs := hB.size
   have HBK := hI hB; clear hB
   by_cases hlt : k < 2
   ·have hk1 : (k : Int) < (2 : Int) := by omega
    go_wp2_with fail
    refine (pStemo_c A2 n2 c2 T row wr (HP4.out.below HBK.out rr) HR.out).mono ?_
    rw [← HR1.out]
    rintro e w5 ⟨A5, n5, c5, rfl, hown5, hb5⟩
    have HB5 := hI (HBK.out.trans (hb5.mono hBs))
    have h5r := hb5.size
    have HO5 := hI hown5
    clear hb5 hown5
    go_wp2_with fail
    refine (pEndingso_c A2 n2 c2 T row w5 (HP4.out.below HB5.out rr) HR.out).mono ?_
    rw [← HR2.out]
    rintro e w6 ⟨A6, n6, c6, rfl, hof6, hb6⟩
    have HIF6 := hI hof6.forms
    obtain ⟨fs, hfd, hfo, hfw⟩ := hof6
    have HFT6 := hI (FTh.of_own hfo hfw)
    have h6r := hb6.size
    have HO6 := hI (own_heap HO5.out fun e he => hb6.block e (HO5.out.lt e he).2)
    have HG5 : Hid (∀ ad, A5 = some ad → 0 < n5 → ad.block < w5.heap.size ∧ wr.heap.size ≤ ad.block) := fun ad had hn => by
     obtain ⟨g, c', hv, hb, hg⟩ := own_block HO5.out hn
     injection hv with hA _ _
     rw [had] at hA
     injection hA with hA
     subst hA
     exact ⟨hg, hb⟩
    have HB6 := hI (HB5.out.trans (hb6.mono HB5.out.size))
    have hw6 : IsWord w6 A5 n5 c5 r1.2 := Cells.of_own HO6.out (by decide)
    have HW6 := hI hw6
    have HTH6 := hI (ThereP.of_own HO6.out)
    have hm5 := hw6.max
    have hm6 := HIF6.out.max
    clear hfd hfo hfw hb6 hw6
    have hne1 : (r1.1 != r1.1) = false := by simp
    have hne2 : (r2.1 != r2.1) = false := by simp
    go_wp2_with fail
    refine (rEqual_c A5 A3 n5 n3 c5 c3 _ _ w6 HW6.out (HI34.out.below HB6.out rr)).mono ?_
    rintro e w7 ⟨rfl, hb7⟩
    rw [decide_eq_true rfl]
    have HB7 := hI (HB6.out.trans (hb7.mono HB6.out.size))
    have HIF7 := hI (HIF6.out.below hb7 rr)
    go_wp2_with fail
    refine (r29Rows_c A6 A4 n6 n4 c6 c4 _ _ w7 HIF7.out (HI4.out.below HB7.out rr)).mono ?_
    rintro e w8 ⟨rfl, hb8'⟩
    rw [decide_eq_true rfl]
    have hb8 := hb7.trans (hb8'.mono hb7.size)
    have HB8 := hI (HB6.out.trans (hb8.mono HB6.out.size))
    have HTH8 := hI (HTH6.out.below hb8)
    have HFT8 := hI (HFT6.out.below hb8)
    have h8r := hb8.size
    clear hb7 hb8 hb8' hne1 hne2
    go_wp2_with fail
    go_loopw [14] (fun vi wx => ∃ i : Nat, vi = .int .i64 i ∧ i ≤ n5 ∧ Hid (ThereP wx (A5, n5, c5, r1.2)) ∧ Hid (FTh w5.heap.size wx A6 n6 c6 fs) ∧ Below w4.heap.size w4 wx) (fun vi _ => n5 - (intOf vi).toNat)
    case atStart => exact ⟨0, rfl, Nat.zero_le _, HTH8.out, HFT8.out, HB8.out⟩
    case round =>
     obtain ⟨i, rfl, hi, hth, hft, hBx⟩ := hrel
     have hBxs := hBx.size
     by_cases hlti : i < n5
     ·have hi1 : (i : Int) < (n5 : Int) := by omega
      obtain ⟨ad5, had5⟩ : ∃ ad, A5 = some ad := by
       obtain ⟨g, c', hv, _⟩ := own_block HO5.out (show 0 < n5 by omega)
       injection hv with hA
       exact ⟨_, hA⟩
      obtain ⟨he5, hl5, ht5⟩ := hth.out ad5 had5 (show 0 < n5 by omega)
      obtain ⟨hg5a, hg5b⟩ := HG5.out ad5 had5 (by omega)
      obtain ⟨g5, hg5⟩ : ∃ g, g = ad5.block := ⟨_, rfl⟩
      rw [← hg5] at he5 hl5 ht5 hg5a hg5b
      clear hg5
      subst he5
      subst had5
      have HTH' := hI (hth.out.setCells g5 (i * 2) [.int .u32 77, .int .u32 0])
      have HFT' := hI (hft.out.set g5 (i * 2) [.int .u32 77, .int .u32 0] (fun a ha hn => by have := hft.out.ab a ha hn; omega))
      have HBx' : Hid (Below w4.heap.size w4 (wr.setCells g5 (i * 2) [.int .u32 77, .int .u32 0])) := below_set (by omega) _ _ _ hBx
      have HTS := hI (there_sub ht5 hlti)
      clear hth hft hBx ht5
      go_wp2_with (refine wpList_store_mid rfl 24 (.tmp 78) (.tmp 77) rfl g5 (i * 2) #[.int .u32 77, .int .u32 0] rfl rfl HTS.out snd_size3 (by simp [Value.oneCell']) ?_)
      go_roundw
      case rel => exact ⟨i + 1, by go_num, by omega, HTH'.out, HFT'.out, HBx'.out⟩
      case measure => simp [intOf]; omega
     have hi1 : ¬ (i : Int) < (n5 : Int) := by omega
     go_wp2_with fail
     clear hth
     go_loopw [15] (fun vj wx => ∃ j : Nat, vj = .int .i64 j ∧ j ≤ n6 ∧ Hid (FTh w5.heap.size wx A6 n6 c6 fs) ∧ Below w4.heap.size w4 wx) (fun vj _ => n6 - (intOf vj).toNat)
     case atStart => exact ⟨0, rfl, Nat.zero_le _, hft.out, hBx⟩
     case round =>
      obtain ⟨j, rfl, hj, hft, hBx⟩ := hrel
      have hBxs := hBx.size
      by_cases hltj : j < n6
      ·have hj1 : (j : Int) < (n6 : Int) := by omega
       have hfl : fs.length = n6 := hft.out.rw_.2
       obtain ⟨f, hf⟩ : ∃ f, fs[j]? = some f := ⟨fs[j]'(by omega), List.getElem?_eq_getElem _⟩
       obtain ⟨b6, off6, hA6, _, _⟩ := hft.out.rw_.at_ FormR.len (by decide) hf
       subst hA6
       have HMF := hI (List.mem_of_getElem? hf)
       have HFF := hI hf
       obtain ⟨A7, n7, c7, hA7, hn7, hc7⟩ : ∃ A7 n7 c7, A7 = f.p.1 ∧ n7 = f.p.2.1 ∧ c7 = f.p.2.2.1 := ⟨_, _, _, rfl, rfl, rfl⟩
       have HA7 := hI hA7
       have HN7 := hI hn7
       have HC7 := hI hc7
       have hx7 : n7 ≤ 9223372036854775807 := by rw [hn7]; exact (hft.out.ww f HMF.out).2.2.2.2
       clear hf hfl hA7 hn7 hc7
       go_wp2_with fail
       go_loopw [16] (fun vq wx => ∃ q : Nat, vq = .int .i64 q ∧ q ≤ n7 ∧ Hid (FTh w5.heap.size wx (some ⟨b6, off6, none⟩) n6 c6 fs) ∧ Below w4.heap.size w4 wx) (fun vq _ => n7 - (intOf vq).toNat)
       case atStart => exact ⟨0, rfl, Nat.zero_le _, hft.out, hBx⟩
       case round =>
        obtain ⟨q, rfl, hq, hft, hBx⟩ := hrel
        have hBxs := hBx.size
        have hcq := hft.out.cell HFF.out
        rw [← HA7.out, ← HN7.out, ← HC7.out] at hcq
        by_cases hltq : q < n7
        ·have hq1 : (q : Int) < (n7 : Int) := by omega
         obtain ⟨w1', w2', w3', w4', _⟩ := hft.out.ww f HMF.out
         obtain ⟨ad7, had7⟩ : ∃ ad, A7 = some ad := by
          cases hA : A7 with
          | some ad => exact ⟨ad, rfl⟩
          | none => have := w4' (by rw [← HA7.out, hA]); rw [← HN7.out] at this; omega
         obtain ⟨he7, hl7, ht7⟩ := w1' ad7 (by rw [← HA7.out, had7]) (by rw [← HN7.out]; omega)
         have hg7 := w2' ad7 (by rw [← HA7.out, had7])
         have hg7' := w3' ad7 _ (by rw [← HA7.out, had7]) rfl
         rw [← HN7.out] at ht7
         clear w1' w2' w3' w4'
         obtain ⟨g7, hgg⟩ : ∃ g, g = ad7.block := ⟨_, rfl⟩
         rw [← hgg] at he7 hl7 ht7 hg7 hg7'
         clear hgg
         subst he7
         subst had7
         have hne7 : b6 ≠ g7 := by have h9 : b6 < g7 := hg7'; omega
         have HFT' := hI (hft.out.set g7 (q * 2) [.int .u32 77, .int .u32 0] (fun a ha hn => by injection ha with ha; subst ha; exact hne7))
         have HBx' : Hid (Below w4.heap.size w4 (wr.setCells g7 (q * 2) [.int .u32 77, .int .u32 0])) := below_set (by omega) _ _ _ hBx
         have HTS := hI (there_sub ht7 hltq)
         clear hft hBx ht7
         go_wp2_with (refine wpList_store_mid rfl 24 (.tmp 102) (.tmp 101) rfl g7 (q * 2) #[.int .u32 77, .int .u32 0] rfl rfl HTS.out snd_size3 (by simp [Value.oneCell']) ?_)
         go_roundw
         case rel => exact ⟨q + 1, by go_num, by omega, HFT'.out, HBx'.out⟩
         case measure => simp [intOf]; omega
        have hq1 : ¬ (q : Int) < (n7 : Int) := by omega
        go_wp2
        go_roundw
        case rel => exact ⟨j + 1, by go_num, by omega, hft.out, hBx⟩
        case measure => simp [intOf]; omega
      have hj1 : ¬ (j : Int) < (n6 : Int) := by omega
      go_wp2
      go_roundw
      case rel => exact ⟨k + 1, by go_num, by omega, hBx⟩
      case measure => simp [intOf]; omega
   ·have hk1 : ¬ (k : Int) < (2 : Int) := by omega
    go_wp2_with fail
    refine (pCheck_c A2 n2 c2 T wr (HP4.out.below HBK.out rr)).mono ?_
    obtain ⟨er, her⟩ : ∃ er, er = parE T := ⟨_, rfl⟩
    rw [← her]
    have HER := hI her; clear her
    rintro e w5 ⟨rfl, hb5⟩
    have hB5 := HBK.out.trans (hb5.mono HBK.out.size)
    clear hb5
    go_wp2_with fail
    refine (r29Check_c A n c T w5 (HX.out.below (HB4.out.trans (hB5.mono HB4.out.size)) rr) HU.out).mono ?_
    rw [← HER.out]
    rintro e w6 ⟨rfl, hb6⟩
    have hB6 := hB5.trans (hb6.mono hB5.size)
    clear hb6 hB5
    have he : (er == er) = true := by simp
    go_wp2_with fail
    refine (same29_c A2 A n2 n c2 c _ _ w6 (HP4.out.below hB6 rr) (HX.out.below (HB4.out.trans (hB6.mono HB4.out.size)) rr)).mono ?_
    rintro e w7 ⟨rfl, hb7⟩
    rw [decide_eq_true rfl]
    have hB7 := HB4.out.trans ((hB6.trans (hb7.mono hB6.size)).mono HB4.out.size)
    clear hb7 hB6
    go_wp2_with fail
    refine (works29_c _ (HT.out.below hB7 rr)).mono ?_
    rintro e w9 ⟨rfl, hbw⟩
    go_wp2
    go_ret
    exact ⟨rfl, hB7.trans (hbw.mono hB7.size)⟩
end Go.Proofs.YtcpcojgmmpnkoaaGreatDoor

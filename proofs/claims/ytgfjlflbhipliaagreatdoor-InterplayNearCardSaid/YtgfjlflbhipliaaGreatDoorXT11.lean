/-
  ablautlaw12.InterplayNear is true.
-/
import Derived.Test.YtgfjlflbhipliaaGreatDoorG45
import Derived.Test.YtgfjlflbhipliaaGreatDoorG42
import Derived.Test.YtgfjlflbhipliaaGreatDoorG37
set_option linter.unusedVariables false
set_option linter.unusedSimpArgs false
set_option maxRecDepth 100000
set_option maxHeartbeats 4000000
namespace Go.Proofs.YtgfjlflbhipliaaGreatDoor
open Go.RowKit Go.Shelf
def NearAt (ls : List LawD) (k : Nat) (a b : LawD) (x : List Snd) : Prop := FourOK a b (endM (ls.take k) x).2 ∧ orderedB a b (endM (ls.take k) x).2 = false
theorem near_all {ls : List LawD} {wss : List (List Snd)} {k : Nat} {a b : LawD} (ha : ls[k]? = some a) (hb : ls[k + 1]? = some b) (h0 : allOK ls wss) (h : ∀ x ∈ wss, NearAt ls k a b x) : endsL ls wss = endsL (exch ls k) wss := by
 unfold endsL
 refine List.map_congr_left fun x hx => ?_
 rw [near_same ha hb (h0 x hx) (h x hx).1 (h x hx).2]
theorem near_c (A : Option Addr) (n c : Nat) (xs : List LawR) (a : Int) (ha0 : 0 ≤ a) (ha1 : a ≤ 255) (A' : Option Addr) (n' c' : Nat) (wss : List (List Snd)) (w : World) (hx : IsLaws w A n c xs) (hw : IsWords w A' n' c' wss) (hT : TabOK w) :
  Calls Tryz.prog 11 #[.slice A n c, .int .u8 a, .slice A' n' c'] w (RetTrue w) := by
 have hmx := hx.max
 have hmw := hw.max
 have HX := hI hx; clear hx
 have HW := hI hw; clear hw
 have HT := hI hT; clear hT
 have HLN : Hid ((lawsD xs).length = n) := by show (lawsD xs).length = n; rw [lawsD, List.length_map]; exact HX.out.len
 go_enter Tryz.func11, Tryz.ntmps11
 go_wp2_with fail
 refine (few_c A n c xs 6 A' n' c' wss w HX.out HW.out).mono ?_
 rintro e w1 ⟨⟨b1, rfl, hb1⟩, hB1⟩
 have HB1 := hI hB1; clear hB1
 cases b1
 ·clear hb1
  go_wp2_with fail
  refine (works12_c _ (HT.out.below HB1.out rr)).mono ?_
  rintro e w2 ⟨rfl, hbw⟩
  go_wp2
  go_ret
  exact ⟨rfl, Below.trans HB1.out (hbw.mono (Below.size HB1.out))⟩
 obtain ⟨hn6, hn12⟩ := hb1 rfl
 clear hb1
 by_cases h2 : n < 2
 ·have h2' : (n : Int) < 2 := by omega
  go_wp2_with fail
  refine (works12_c _ (HT.out.below HB1.out rr)).mono ?_
  rintro e w2 ⟨rfl, hbw⟩
  go_wp2
  go_ret
  exact ⟨rfl, Below.trans HB1.out (hbw.mono (Below.size HB1.out))⟩
 have h2' : ¬ (n : Int) < 2 := by omega
 have hwn : IntKind.i64.wrap ((n : Int) - 1) = (n : Int) - 1 := IntWalk.i64_in _ (by omega)
 have hpos : (0 : Int) < (n : Int) - 1 := by omega
 obtain ⟨k, hk⟩ : ∃ k : Nat, a % ((n : Int) - 1) = k := ⟨(a % ((n : Int) - 1)).toNat, by have := Int.emod_nonneg a (b := (n : Int) - 1) (by omega); omega⟩
 have hkn : k + 1 < n := by have := Int.emod_lt_of_pos a (b := (n : Int) - 1) hpos; omega
 obtain ⟨s1, hs1⟩ := HX.out.get (show k < n by omega)
 obtain ⟨s2, hs2⟩ := HX.out.get hkn
 obtain ⟨b, off, hA, hbb, hg1⟩ := HX.out.at_ hs1
 obtain ⟨b2, off2, hA2, _, hg2⟩ := HX.out.at_ hs2
 subst hA
 obtain ⟨rfl, rfl⟩ : b = b2 ∧ off = off2 := by simpa using hA2
 clear hA2
 have HS1 := hI hs1; clear hs1
 have HS2 := hI hs2; clear hs2
 have HG1 := hI hg1; clear hg1
 have HG2 := hI hg2; clear hg2
 go_wp2_with fail
 simp only [hk]
 clear hk hpos hwn
 refine (matters_c (some ⟨b, off, none⟩) n c xs k A' n' c' wss w1 (HX.out.below HB1.out rr) (HW.out.below HB1.out rr) (HT.out.below HB1.out rr)).mono ?_
 rintro e w2 ⟨rfl, hb⟩
 have HB2 := hI (HB1.out.trans (hb.mono HB1.out.size)); clear hb HB1
 by_cases hc : chkM (lawsD xs) wss = 0
 case neg =>
  rw [mat_chk hc]
  have h3 : (chkM (lawsD xs) wss != 0) = true := by simpa using hc
  clear hc
  go_wp2_with fail
  refine (works12_c _ (HT.out.below HB2.out rr)).mono ?_
  rintro e w3 ⟨rfl, hbw⟩
  go_wp2
  go_ret
  exact ⟨rfl, Below.trans HB2.out (hbw.mono (Below.size HB2.out))⟩
 have HLE : Hid (lawsE (lawsD xs) = 0) := chk_laws hc
 have HALL := hI (chk_all hc).2
 have HE1 : Hid (lawE s1.l = 0) := (lawsE_all HLE.out).2 _ (List.mem_map.2 ⟨s1, List.mem_of_getElem? HS1.out, rfl⟩)
 have HE2 : Hid (lawE s2.l = 0) := (lawsE_all HLE.out).2 _ (List.mem_map.2 ⟨s2, List.mem_of_getElem? HS2.out, rfl⟩)
 have HD1 : Hid ((lawsD xs)[k]? = some s1.l) := by show _ = _; rw [lawsD, List.getElem?_map, HS1.out]; rfl
 have HD2 : Hid ((lawsD xs)[k + 1]? = some s2.l) := by show _ = _; rw [lawsD, List.getElem?_map, HS2.out]; rfl
 have hi1 : (k : Int) < (n : Int) := by omega
 have hi2 : (k : Int) + 1 < (n : Int) := by omega
 have hiw : IntKind.i64.wrap ((k : Int) + 1) = (k : Int) + 1 := IntWalk.i64_in _ (by omega)
 have hi0 : (0 : Int) ≤ (k : Int) + 1 := by omega
 have hin : ((k : Int) + 1).toNat = k + 1 := by omega
 rcases mat_cases (i := k) hc (by rw [HLN.out]; exact hkn) with ⟨h1, _⟩ | ⟨hok, _, k2, h1, hk2, hdf, _⟩ | ⟨hok, _, h1, _⟩
 ·rw [h1]
  clear h1 hc
  go_wp2_with fail
  refine (works12_c _ (HT.out.below HB2.out rr)).mono ?_
  rintro e w3 ⟨rfl, hbw⟩
  go_wp2
  go_ret
  exact ⟨rfl, Below.trans HB2.out (hbw.mono (Below.size HB2.out))⟩
 ·rw [h1]
  clear h1 hc
  have HOK := hI hok; clear hok
  have HDF := hI hdf; clear hdf
  go_wp2_with fail
  go_loopw [11, 12] (fun v i wr => ∃ (j : Nat) (d : Bool), v = .bool d ∧ i = .int .i64 j ∧ j ≤ n' ∧ Hid (d = true → ∀ x ∈ wss.take j, NearAt (lawsD xs) k s1.l s2.l x) ∧ Below w.heap.size w wr) (fun _ i _ => n' - (intOf i).toNat)
  case atStart => exact ⟨0, true, rfl, rfl, Nat.zero_le _, (fun _ x hx => by simp at hx), HB2.out⟩
  case round =>
   obtain ⟨j, d, rfl, rfl, hj, hd, hB⟩ := hrel
   have hBs := hB.size
   by_cases hlt : j < n'
   ·have hj1 : (j : Int) < (n' : Int) := by omega
    obtain ⟨b', off', A1, n1, c1, x, rfl, hbl, hcell, hxk, hwx⟩ := (HW.out.below hB rr).at_ hlt
    have hmem := List.mem_of_getElem? hxk
    have hxw := HALL.out x hmem
    have hxe := HOK.out x hmem
    have hte := end_take hxe k
    have hyw : wcheck (endM ((lawsD xs).take k) x).2 = 0 := by
     rcases endM_ok (ls := (lawsD xs).take k) (fun l hl => (lawsE_all HLE.out).2 l (List.mem_of_mem_take hl)) hxw with h | h
     ·rw [h] at hte; exact absurd hte (by decide)
     ·exact h.2
    have hpm : partM (lawsD xs) 0 k x = (0, (endM ((lawsD xs).take k) x).2) := by
     have h : partM (lawsD xs) 0 k x = deriveM (((lawsD xs).take k).drop 0) x := part_ok 0 k HLE.out hxw (Nat.zero_le _) (by rw [HLN.out]; omega)
     rw [h, List.drop_zero, derive_ok (lawsE_sub HLE.out (by rw [List.length_take]; omega) fun l hl => List.mem_of_mem_take hl) hxw, if_neg (by simpa using hte)]
    obtain ⟨y, hy⟩ : ∃ y, y = (endM ((lawsD xs).take k) x).2 := ⟨_, rfl⟩
    rw [← hy] at hpm hyw
    have HY := hI hy; clear hy
    have HPM := hI hpm; clear hpm
    have HYW := hI hyw; clear hyw
    have HSN := hI (take_snoc' wss j x hxk)
    have HWX := hI hwx; clear hwx hxk hmem hxw hxe hte
    go_wp2_with fail
    refine (part_c (some ⟨b, off, none⟩) n c xs 0 k A1 n1 c1 x wr (HX.out.below hB rr) HWX.out (HT.out.below hB rr)).mono ?_
    rw [HPM.out]
    rintro e w5 ⟨A5, n5, c5, rfl, hw5, hb5, _⟩
    have hB5 := hB.trans (hb5.mono hBs)
    have HW5 := hI hw5; clear hw5 hb5 hcell
    have hg1 := range_below HG1.out hB5 hbb
    have hg2 := range_below HG2.out hB5 hbb
    go_wp2
    refine plain_region (fun W' => W'.rangeAt b (off + k * 18) s1.cells ∧ W'.rangeAt b (off + (k + 1) * 18) s2.cells) (by kernel_rfl) ⟨hg1, hg2⟩ (fun hHeld => ?_)
    (refine' anyT_tk 0 rfl ?_; (try simp only [Act.put, nA, nB, nC, nD, nE, nF])); (refine' anyT_tk 1 rfl ?_; (try simp only [Act.put, nA, nB, nC, nD, nE, nF])); (refine' anyT_tk 2 rfl ?_; (try simp only [Act.put, nA, nB, nC, nD, nE, nF]))
    (refine' anyT_take (i := 3) (v := lawV s1.l s1.a) rfl (by kernel_rfl) (by kernel_rfl) (by kernel_rfl) (by kernel_rfl) (fun _ _ _ h => h) (yields_lawM (by rfl) (.tmp 69) rfl b (off + k * 18) s1 (by rfl) (fun _ h => h.1)) (by assumption) ?_; (try simp only [Act.put, nA, nB, nC, nD, nE, nF]))
    (refine' anyT_tk 4 rfl ?_; (try simp only [Act.put, nA, nB, nC, nD, nE, nF])); (refine' anyT_tk 5 rfl ?_; (try simp only [Act.put, nA, nB, nC, nD, nE, nF])); (refine' anyT_tk 6 rfl ?_; (try simp only [Act.put, nA, nB, nC, nD, nE, nF])); (refine' anyT_tk 7 rfl ?_; (try simp only [Act.put, nA, nB, nC, nD, nE, nF]))
    (refine' anyT_take (i := 8) (v := lawV s2.l s2.a) rfl (by kernel_rfl) (by kernel_rfl) (by kernel_rfl) (by kernel_rfl) (fun _ _ _ h => h) (yields_lawM (by rfl) (.tmp 74) rfl b (off + (k + 1) * 18) s2 (by rfl) (fun _ h => h.2)) (by assumption) ?_; (try simp only [Act.put, nA, nB, nC, nD, nE, nF]))
    (refine' anyT_tk 9 rfl ?_; (try simp only [Act.put, nA, nB, nC, nD, nE, nF]))
    (refine anyT_step (i := 10) (by kernel_rfl) rfl (fun K' hK' => ?_); simp only [List.getElem_toArray, List.getElem_cons_zero, List.getElem_cons_succ]; go_simp)
    have hd5 : Below w5.heap.size w5 w5.drew := (Below.refl w5.heap.size w5).drew
    have hB5d := hB5.trans (hd5.mono hB5.size)
    refine (commute_c s1.l s1.a s2.l s2.a A5 n5 c5 y _ ((HX.out.2 s1 (List.mem_of_getElem? HS1.out)).below hB5d rr) ((HX.out.2 s2 (List.mem_of_getElem? HS2.out)).below hB5d rr) (HW5.out.below hd5 rr) (HT.out.below hB5d rr)).mono ?_
    rintro e w6 ⟨rfl, hb6⟩
    have hB6 := hB5d.trans (hb6.mono hB5d.size)
    have hS6 : w6.rangeAt b (off + k * 18) s1.cells ∧ w6.rangeAt b (off + (k + 1) * 18) s2.cells := ⟨range_below HG1.out hB6 hbb, range_below HG2.out hB6 hbb⟩
    refine hK' _ _ ⟨.inr hS6, fun _ => ?_⟩
    clear hK' K' hHeld hg1 hg2 hb6 hd5 hB5d
    have HB6 := hI hB6
    (try simp only [Act.put, nA, nB, nC, nD, nE, nF])
    (refine' anyT_tk 11 rfl ?_; (try simp only [Act.put, nA, nB, nC, nD, nE, nF])); (refine' anyT_tk 12 rfl ?_; (try simp only [Act.put, nA, nB, nC, nD, nE, nF])); (refine' anyT_tk 13 rfl ?_; (try simp only [Act.put, nA, nB, nC, nD, nE, nF])); (refine' anyT_tk 14 rfl ?_; (try simp only [Act.put, nA, nB, nC, nD, nE, nF]))
    (refine anyT_step (i := 15) (by kernel_rfl) rfl (fun K' hK' => ?_); simp only [List.getElem_toArray, List.getElem_cons_zero, List.getElem_cons_succ]; go_simp)
    refine hK' _ _ ⟨.inl (by kernel_rfl), fun _ => anyT_done (by kernel_rfl) ?_ _⟩
    clear hK' K' hS6
    by_cases hf : FourOK s1.l s2.l y
    ·have h1 := rel_good HE1.out HE2.out hf
     have hcb := comB_good h1
     obtain ⟨o, ho⟩ : ∃ o, o = orderedB s1.l s2.l y := ⟨_, rfl⟩
     rw [hcb, h1, ← ho]
     clear h1 hcb
     cases d
     ·have HNX : Hid (false = true → ∀ x ∈ wss.take (j + 1), NearAt (lawsD xs) k s1.l s2.l x) := fun h => by cases h
      clear hf ho
      go_wp2
      go_roundw
      case rel => exact ⟨j + 1, false, rfl, by go_num, by omega, HNX.out, HB6.out⟩
      case measure => simp [intOf]; omega
     ·cases o
      ·have HNX : Hid (true = true → ∀ x ∈ wss.take (j + 1), NearAt (lawsD xs) k s1.l s2.l x) := fun _ z hz => by
        rw [HSN.out] at hz
        rcases List.mem_append.1 hz with h | h
        ·exact hd.out rfl z h
        ·obtain rfl : z = x := by simpa using h
         unfold NearAt
         rw [← HY.out]
         exact ⟨hf, ho.symm⟩
       clear hf ho
       go_wp2
       go_roundw
       case rel => exact ⟨j + 1, true, rfl, by go_num, by omega, HNX.out, HB6.out⟩
       case measure => simp [intOf]; omega
      ·have HNX : Hid (false = true → ∀ x ∈ wss.take (j + 1), NearAt (lawsD xs) k s1.l s2.l x) := fun h => by cases h
       clear hf ho
       go_wp2
       go_roundw
       case rel => exact ⟨j + 1, false, rfl, by go_num, by omega, HNX.out, HB6.out⟩
       case measure => simp [intOf]; omega
    ·have h1 := rel_long HE1.out HE2.out HYW.out hf
     have hcb := comB_bad h1 (by decide)
     rw [hcb, h1]
     clear h1 hcb hf
     go_wp2_with fail
     refine (works12_c _ (HT.out.below HB6.out rr)).mono ?_
     rintro e w7 ⟨rfl, hbw⟩
     go_wp2
     go_ret
     exact ⟨rfl, Below.trans HB6.out (hbw.mono (Below.size HB6.out))⟩
   ·obtain rfl : j = n' := by omega
    have HBX := hI hB
    (by_cases hdd : d = true; (case pos => exact absurd (by rw [near_all HD1.out HD2.out HOK.out fun x hx => hd.out hdd x (by rw [List.take_of_length_le (by rw [HW.out.len]; exact rr)]; exact hx)]) HDF.out); obtain rfl : d = false := by simpa using hdd); (go_wp2_with fail; refine (works12_c _ (HT.out.below HBX.out rr)).mono ?_; rintro e w9 ⟨rfl, hbw⟩; go_wp2; go_ret; exact ⟨rfl, HBX.out.trans (hbw.mono HBX.out.size)⟩)
 ·rw [h1]
  clear h1 hc
  have HOK := hI hok; clear hok
  go_wp2_with fail
  go_loopw [11, 12] (fun v i wr => ∃ (j : Nat) (d : Bool), v = .bool d ∧ i = .int .i64 j ∧ j ≤ n' ∧ Hid (d = true → ∀ x ∈ wss.take j, NearAt (lawsD xs) k s1.l s2.l x) ∧ Below w.heap.size w wr) (fun _ i _ => n' - (intOf i).toNat)
  case atStart => exact ⟨0, true, rfl, rfl, Nat.zero_le _, (fun _ x hx => by simp at hx), HB2.out⟩
  case round =>
   obtain ⟨j, d, rfl, rfl, hj, hd, hB⟩ := hrel
   have hBs := hB.size
   by_cases hlt : j < n'
   ·have hj1 : (j : Int) < (n' : Int) := by omega
    obtain ⟨b', off', A1, n1, c1, x, rfl, hbl, hcell, hxk, hwx⟩ := (HW.out.below hB rr).at_ hlt
    have hmem := List.mem_of_getElem? hxk
    have hxw := HALL.out x hmem
    have hxe := HOK.out x hmem
    have hte := end_take hxe k
    have hyw : wcheck (endM ((lawsD xs).take k) x).2 = 0 := by
     rcases endM_ok (ls := (lawsD xs).take k) (fun l hl => (lawsE_all HLE.out).2 l (List.mem_of_mem_take hl)) hxw with h | h
     ·rw [h] at hte; exact absurd hte (by decide)
     ·exact h.2
    have hpm : partM (lawsD xs) 0 k x = (0, (endM ((lawsD xs).take k) x).2) := by
     have h : partM (lawsD xs) 0 k x = deriveM (((lawsD xs).take k).drop 0) x := part_ok 0 k HLE.out hxw (Nat.zero_le _) (by rw [HLN.out]; omega)
     rw [h, List.drop_zero, derive_ok (lawsE_sub HLE.out (by rw [List.length_take]; omega) fun l hl => List.mem_of_mem_take hl) hxw, if_neg (by simpa using hte)]
    obtain ⟨y, hy⟩ : ∃ y, y = (endM ((lawsD xs).take k) x).2 := ⟨_, rfl⟩
    rw [← hy] at hpm hyw
    have HY := hI hy; clear hy
    have HPM := hI hpm; clear hpm
    have HYW := hI hyw; clear hyw
    have HSN := hI (take_snoc' wss j x hxk)
    have HWX := hI hwx; clear hwx hxk hmem hxw hxe hte
    go_wp2_with fail
    refine (part_c (some ⟨b, off, none⟩) n c xs 0 k A1 n1 c1 x wr (HX.out.below hB rr) HWX.out (HT.out.below hB rr)).mono ?_
    rw [HPM.out]
    rintro e w5 ⟨A5, n5, c5, rfl, hw5, hb5, _⟩
    have hB5 := hB.trans (hb5.mono hBs)
    have HW5 := hI hw5; clear hw5 hb5 hcell
    have hg1 := range_below HG1.out hB5 hbb
    have hg2 := range_below HG2.out hB5 hbb
    go_wp2
    refine plain_region (fun W' => W'.rangeAt b (off + k * 18) s1.cells ∧ W'.rangeAt b (off + (k + 1) * 18) s2.cells) (by kernel_rfl) ⟨hg1, hg2⟩ (fun hHeld => ?_)
    (refine' anyT_tk 0 rfl ?_; (try simp only [Act.put, nA, nB, nC, nD, nE, nF])); (refine' anyT_tk 1 rfl ?_; (try simp only [Act.put, nA, nB, nC, nD, nE, nF])); (refine' anyT_tk 2 rfl ?_; (try simp only [Act.put, nA, nB, nC, nD, nE, nF]))
    (refine' anyT_take (i := 3) (v := lawV s1.l s1.a) rfl (by kernel_rfl) (by kernel_rfl) (by kernel_rfl) (by kernel_rfl) (fun _ _ _ h => h) (yields_lawM (by rfl) (.tmp 69) rfl b (off + k * 18) s1 (by rfl) (fun _ h => h.1)) (by assumption) ?_; (try simp only [Act.put, nA, nB, nC, nD, nE, nF]))
    (refine' anyT_tk 4 rfl ?_; (try simp only [Act.put, nA, nB, nC, nD, nE, nF])); (refine' anyT_tk 5 rfl ?_; (try simp only [Act.put, nA, nB, nC, nD, nE, nF])); (refine' anyT_tk 6 rfl ?_; (try simp only [Act.put, nA, nB, nC, nD, nE, nF])); (refine' anyT_tk 7 rfl ?_; (try simp only [Act.put, nA, nB, nC, nD, nE, nF]))
    (refine' anyT_take (i := 8) (v := lawV s2.l s2.a) rfl (by kernel_rfl) (by kernel_rfl) (by kernel_rfl) (by kernel_rfl) (fun _ _ _ h => h) (yields_lawM (by rfl) (.tmp 74) rfl b (off + (k + 1) * 18) s2 (by rfl) (fun _ h => h.2)) (by assumption) ?_; (try simp only [Act.put, nA, nB, nC, nD, nE, nF]))
    (refine' anyT_tk 9 rfl ?_; (try simp only [Act.put, nA, nB, nC, nD, nE, nF]))
    (refine anyT_step (i := 10) (by kernel_rfl) rfl (fun K' hK' => ?_); simp only [List.getElem_toArray, List.getElem_cons_zero, List.getElem_cons_succ]; go_simp)
    have hd5 : Below w5.heap.size w5 w5.drew := (Below.refl w5.heap.size w5).drew
    have hB5d := hB5.trans (hd5.mono hB5.size)
    refine (commute_c s1.l s1.a s2.l s2.a A5 n5 c5 y _ ((HX.out.2 s1 (List.mem_of_getElem? HS1.out)).below hB5d rr) ((HX.out.2 s2 (List.mem_of_getElem? HS2.out)).below hB5d rr) (HW5.out.below hd5 rr) (HT.out.below hB5d rr)).mono ?_
    rintro e w6 ⟨rfl, hb6⟩
    have hB6 := hB5d.trans (hb6.mono hB5d.size)
    have hS6 : w6.rangeAt b (off + k * 18) s1.cells ∧ w6.rangeAt b (off + (k + 1) * 18) s2.cells := ⟨range_below HG1.out hB6 hbb, range_below HG2.out hB6 hbb⟩
    refine hK' _ _ ⟨.inr hS6, fun _ => ?_⟩
    clear hK' K' hHeld hg1 hg2 hb6 hd5 hB5d
    have HB6 := hI hB6
    (try simp only [Act.put, nA, nB, nC, nD, nE, nF])
    (refine' anyT_tk 11 rfl ?_; (try simp only [Act.put, nA, nB, nC, nD, nE, nF])); (refine' anyT_tk 12 rfl ?_; (try simp only [Act.put, nA, nB, nC, nD, nE, nF])); (refine' anyT_tk 13 rfl ?_; (try simp only [Act.put, nA, nB, nC, nD, nE, nF])); (refine' anyT_tk 14 rfl ?_; (try simp only [Act.put, nA, nB, nC, nD, nE, nF]))
    (refine anyT_step (i := 15) (by kernel_rfl) rfl (fun K' hK' => ?_); simp only [List.getElem_toArray, List.getElem_cons_zero, List.getElem_cons_succ]; go_simp)
    refine hK' _ _ ⟨.inl (by kernel_rfl), fun _ => anyT_done (by kernel_rfl) ?_ _⟩
    clear hK' K' hS6
    by_cases hf : FourOK s1.l s2.l y
    ·have h1 := rel_good HE1.out HE2.out hf
     have hcb := comB_good h1
     obtain ⟨o, ho⟩ : ∃ o, o = orderedB s1.l s2.l y := ⟨_, rfl⟩
     rw [hcb, h1, ← ho]
     clear h1 hcb
     cases d
     ·have HNX : Hid (false = true → ∀ x ∈ wss.take (j + 1), NearAt (lawsD xs) k s1.l s2.l x) := fun h => by cases h
      clear hf ho
      go_wp2
      go_roundw
      case rel => exact ⟨j + 1, false, rfl, by go_num, by omega, HNX.out, HB6.out⟩
      case measure => simp [intOf]; omega
     ·cases o
      ·have HNX : Hid (true = true → ∀ x ∈ wss.take (j + 1), NearAt (lawsD xs) k s1.l s2.l x) := fun _ z hz => by
        rw [HSN.out] at hz
        rcases List.mem_append.1 hz with h | h
        ·exact hd.out rfl z h
        ·obtain rfl : z = x := by simpa using h
         unfold NearAt
         rw [← HY.out]
         exact ⟨hf, ho.symm⟩
       clear hf ho
       go_wp2
       go_roundw
       case rel => exact ⟨j + 1, true, rfl, by go_num, by omega, HNX.out, HB6.out⟩
       case measure => simp [intOf]; omega
      ·have HNX : Hid (false = true → ∀ x ∈ wss.take (j + 1), NearAt (lawsD xs) k s1.l s2.l x) := fun h => by cases h
       clear hf ho
       go_wp2
       go_roundw
       case rel => exact ⟨j + 1, false, rfl, by go_num, by omega, HNX.out, HB6.out⟩
       case measure => simp [intOf]; omega
    ·have h1 := rel_long HE1.out HE2.out HYW.out hf
     have hcb := comB_bad h1 (by decide)
     rw [hcb, h1]
     clear h1 hcb hf
     go_wp2_with fail
     refine (works12_c _ (HT.out.below HB6.out rr)).mono ?_
     rintro e w7 ⟨rfl, hbw⟩
     go_wp2
     go_ret
     exact ⟨rfl, Below.trans HB6.out (hbw.mono (Below.size HB6.out))⟩
   ·obtain rfl : j = n' := by omega
    have HBX := hI hB
    cases d <;> (go_wp2_with fail; refine (works12_c _ (HT.out.below HBX.out rr)).mono ?_; rintro e w9 ⟨rfl, hbw⟩; go_wp2; go_ret; exact ⟨rfl, HBX.out.trans (hbw.mono HBX.out.size)⟩)
end Go.Proofs.YtgfjlflbhipliaaGreatDoor

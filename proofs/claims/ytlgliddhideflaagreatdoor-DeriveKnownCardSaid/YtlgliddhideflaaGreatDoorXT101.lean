/-
  ablautlaw10.DeriveKnown is true (under way).
-/
import Derived.Test.YtlgliddhideflaaGreatDoorXKnL
import Derived.Test.YtlgliddhideflaaGreatDoorXKnF
import Derived.Test.YtlgliddhideflaaGreatDoorXAnyJ
import Derived.Test.YtlgliddhideflaaGreatDoorXIdle1
import Derived.Test.YtlgliddhideflaaGreatDoorG18
set_option linter.all false
set_option maxRecDepth 100000
set_option maxHeartbeats 4000000
namespace Go.Proofs.YtlgliddhideflaaGreatDoor
open Go.RowKit Go.Shelf
def mkF (b : Nat) : LawR := ⟨fD, ⟨none, 0, none, 0, some ⟨b, 0, none⟩, 1, none, 0⟩⟩
theorem mkF_at {w : World} {b : Nat} (h : IsWord w (some ⟨b, 0, none⟩) 1 1 [(4, 0)]) : LawAt w (mkF b).l (mkF b).a := ⟨FSl_nil _, FSl_nil _, h, ⟨Cells.nil _ _, rfl⟩, show (1 : Nat) ≤ _ by decide⟩
theorem mkF_set (bs : List Nat) (b : Nat) (h : bs.length < 64) : (bs.map mkF ++ List.replicate (64 - bs.length) zlR).set bs.length (mkF b) = (bs ++ [b]).map mkF ++ List.replicate (64 - (bs.length + 1)) zlR := by
 have e : 64 - bs.length = (64 - (bs.length + 1)) + 1 := by omega
 rw [e, List.replicate_succ, List.set_append_right _ _ (by simp), List.length_map, Nat.sub_self, List.set_cons_zero, List.map_append, List.append_assoc]; rfl
theorem mkF_data (bs : List Nat) : lawsD (bs.map mkF) = List.replicate bs.length fD := by
 induction bs with
 | nil => rfl
 | cons b bs ih => rw [List.map_cons, List.length_cons, List.replicate_succ, ← ih]; rfl
theorem deriveKnown_c (w : World) (hT : TabOK w) : Calls Tryz.prog 3 #[] w (RetTrue w) := by
 have HT := hI hT; clear hT
 have HB0 := hI (Below.refl w.heap.size w)
 go_enter Tryz.func3, Tryz.ntmps3
 go_wp2_with fail
 refine (exA_c _).mono ?_
 rintro e w1 ⟨rfl, hb⟩
 replace HB0 := hI (HB0.out.trans (hb.mono HB0.out.size))
 replace HT := hI (HT.out.below hb rr)
 try replace HG := hI ((hb.block _ (lt_of_block HG.out)).trans HG.out)
 try replace HGA := hI (HGA.out.below hb rr)
 try replace HAPA := hI (HAPA.out.below hb rr)
 try replace HPAP := hI (HPAP.out.below hb rr)
 try replace HPA := hI (HPA.out.below hb rr)
 try replace HBAD := hI (HBAD.out.below hb rr)
 try replace HLONG := hI (HLONG.out.below hb rr)
 try replace HLAWS := hI (HLAWS.out.below hb rr)
 try replace HOVER := hI (HOVER.out.below hb rr)
 try replace HVF := hI (HVF.out.below hb rr)
 try replace HLA := hI (HLA.out.below hb rr)
 try replace HLB := hI (HLB.out.below hb rr)
 try replace HLC := hI (HLC.out.below hb rr)
 try replace HX := hI (HX.out.below hb rr)
 try replace HY := hI (HY.out.below hb rr)
 try replace HZ := hI (HZ.out.below hb rr)
 try replace HU := hI (HU.out.below hb rr)
 try replace HV := hI (HV.out.below hb rr)
 try replace HP := hI (HP.out.below hb rr)
 try replace HQ := hI (HQ.out.below hb rr)
 try replace HI1 := hI (HI1.out.below hb rr)
 try replace HI2 := hI (HI2.out.below hb rr)
 try clear hb
 obtain ⟨ag, hag⟩ : ∃ ag : LawA, ag = { Al := none, cl := 0, Ar := none, cr := 0, Ai := none, ci := 0, Ao := some ⟨w1.heap.size, 0, none⟩, co := 1 } := ⟨_, rfl⟩
 have HAG := hI hag
 clear hag
 go_wp2_with (refine store_law rfl (.tmp 1) (.tmp 59) rfl (w1.heap.size + 1) gD ag rfl (by rw [HAG.out]; rfl) (t := 34) (by repeat (first | exact heap_new_at sd | rw [heap_old_at sd])) rfl ?hg)
 case hg =>
  intro W1 g1 g2 g3
  have h2 := (g2.block w1.heap.size (by simp; omega) (by omega)).trans (show _ = some (.cells #[.int .i64 (-1), .int .u32 0, .int .u32 5, .int .u32 2, .int .u32 0, .int .i64 0] 30 (0, 0)) by repeat (first | exact heap_new_at sd | rw [heap_old_at sd]))
  have hga : LawAt W1 gD ag := by
   rw [HAG.out]
   refine ⟨FSl_nil _, FSl_nil _, Cells.nil _ _, ⟨⟨rfl, rr, (by decide : 1 ≤ maxLen), (fun h => by cases h), fun _ => ⟨w1.heap.size, 0, rfl, lt_of_block h2, fun j v hv => ?_⟩⟩, rfl⟩, by decide⟩
   rw [Nat.zero_add]
   refine cell_at_heap h2 ?_
   have hv' : [Value.int .i64 (-1), .int .u32 0, .int .u32 5, .int .u32 2, .int .u32 0, .int .i64 0][j]? = some v := hv
   simpa using hv'
  have hb : Below w1.heap.size w1 W1 := Below.trans bel (g2.to_below (B := w1.heap.size) (fun k hk => by omega) (by simp; omega))
  obtain ⟨bg, hbg⟩ : ∃ bg, bg = w1.heap.size + 1 := ⟨_, rfl⟩
  rw [← hbg] at g1 ⊢
  clear hbg g2 g3 h2 HAG
  replace HB0 := hI (HB0.out.trans (hb.mono HB0.out.size))
  replace HT := hI (HT.out.below hb rr)
  try replace HG := hI ((hb.block _ (lt_of_block HG.out)).trans HG.out)
  try replace HGA := hI (HGA.out.below hb rr)
  try replace HAPA := hI (HAPA.out.below hb rr)
  try replace HPAP := hI (HPAP.out.below hb rr)
  try replace HPA := hI (HPA.out.below hb rr)
  try replace HBAD := hI (HBAD.out.below hb rr)
  try replace HLONG := hI (HLONG.out.below hb rr)
  try replace HLAWS := hI (HLAWS.out.below hb rr)
  try replace HOVER := hI (HOVER.out.below hb rr)
  try replace HVF := hI (HVF.out.below hb rr)
  try replace HLA := hI (HLA.out.below hb rr)
  try replace HLB := hI (HLB.out.below hb rr)
  try replace HLC := hI (HLC.out.below hb rr)
  try replace HX := hI (HX.out.below hb rr)
  try replace HY := hI (HY.out.below hb rr)
  try replace HZ := hI (HZ.out.below hb rr)
  try replace HU := hI (HU.out.below hb rr)
  try replace HV := hI (HV.out.below hb rr)
  try replace HP := hI (HP.out.below hb rr)
  try replace HQ := hI (HQ.out.below hb rr)
  try replace HI1 := hI (HI1.out.below hb rr)
  try replace HI2 := hI (HI2.out.below hb rr)
  try clear hb
  have HG := hI g1; have HGA := hI hga
  clear g1 hga
  go_wp2_with fail
  refine (exA_c _).mono ?_
  rintro e w2 ⟨rfl, hb⟩
  replace HB0 := hI (HB0.out.trans (hb.mono HB0.out.size))
  replace HT := hI (HT.out.below hb rr)
  try replace HG := hI ((hb.block _ (lt_of_block HG.out)).trans HG.out)
  try replace HGA := hI (HGA.out.below hb rr)
  try replace HAPA := hI (HAPA.out.below hb rr)
  try replace HPAP := hI (HPAP.out.below hb rr)
  try replace HPA := hI (HPA.out.below hb rr)
  try replace HBAD := hI (HBAD.out.below hb rr)
  try replace HLONG := hI (HLONG.out.below hb rr)
  try replace HLAWS := hI (HLAWS.out.below hb rr)
  try replace HOVER := hI (HOVER.out.below hb rr)
  try replace HVF := hI (HVF.out.below hb rr)
  try replace HLA := hI (HLA.out.below hb rr)
  try replace HLB := hI (HLB.out.below hb rr)
  try replace HLC := hI (HLC.out.below hb rr)
  try replace HX := hI (HX.out.below hb rr)
  try replace HY := hI (HY.out.below hb rr)
  try replace HZ := hI (HZ.out.below hb rr)
  try replace HU := hI (HU.out.below hb rr)
  try replace HV := hI (HV.out.below hb rr)
  try replace HP := hI (HP.out.below hb rr)
  try replace HQ := hI (HQ.out.below hb rr)
  try replace HI1 := hI (HI1.out.below hb rr)
  try replace HI2 := hI (HI2.out.below hb rr)
  try clear hb
  go_wp2_with fail
  refine (exP_c _).mono ?_
  rintro e w3 ⟨rfl, hb⟩
  replace HB0 := hI (HB0.out.trans (hb.mono HB0.out.size))
  replace HT := hI (HT.out.below hb rr)
  try replace HG := hI ((hb.block _ (lt_of_block HG.out)).trans HG.out)
  try replace HGA := hI (HGA.out.below hb rr)
  try replace HAPA := hI (HAPA.out.below hb rr)
  try replace HPAP := hI (HPAP.out.below hb rr)
  try replace HPA := hI (HPA.out.below hb rr)
  try replace HBAD := hI (HBAD.out.below hb rr)
  try replace HLONG := hI (HLONG.out.below hb rr)
  try replace HLAWS := hI (HLAWS.out.below hb rr)
  try replace HOVER := hI (HOVER.out.below hb rr)
  try replace HVF := hI (HVF.out.below hb rr)
  try replace HLA := hI (HLA.out.below hb rr)
  try replace HLB := hI (HLB.out.below hb rr)
  try replace HLC := hI (HLC.out.below hb rr)
  try replace HX := hI (HX.out.below hb rr)
  try replace HY := hI (HY.out.below hb rr)
  try replace HZ := hI (HZ.out.below hb rr)
  try replace HU := hI (HU.out.below hb rr)
  try replace HV := hI (HV.out.below hb rr)
  try replace HP := hI (HP.out.below hb rr)
  try replace HQ := hI (HQ.out.below hb rr)
  try replace HI1 := hI (HI1.out.below hb rr)
  try replace HI2 := hI (HI2.out.below hb rr)
  try clear hb
  go_wp2_with fail
  refine (exA_c _).mono ?_
  rintro e w4 ⟨rfl, hb⟩
  replace HB0 := hI (HB0.out.trans (hb.mono HB0.out.size))
  replace HT := hI (HT.out.below hb rr)
  try replace HG := hI ((hb.block _ (lt_of_block HG.out)).trans HG.out)
  try replace HGA := hI (HGA.out.below hb rr)
  try replace HAPA := hI (HAPA.out.below hb rr)
  try replace HPAP := hI (HPAP.out.below hb rr)
  try replace HPA := hI (HPA.out.below hb rr)
  try replace HBAD := hI (HBAD.out.below hb rr)
  try replace HLONG := hI (HLONG.out.below hb rr)
  try replace HLAWS := hI (HLAWS.out.below hb rr)
  try replace HOVER := hI (HOVER.out.below hb rr)
  try replace HVF := hI (HVF.out.below hb rr)
  try replace HLA := hI (HLA.out.below hb rr)
  try replace HLB := hI (HLB.out.below hb rr)
  try replace HLC := hI (HLC.out.below hb rr)
  try replace HX := hI (HX.out.below hb rr)
  try replace HY := hI (HY.out.below hb rr)
  try replace HZ := hI (HZ.out.below hb rr)
  try replace HU := hI (HU.out.below hb rr)
  try replace HV := hI (HV.out.below hb rr)
  try replace HP := hI (HP.out.below hb rr)
  try replace HQ := hI (HQ.out.below hb rr)
  try replace HI1 := hI (HI1.out.below hb rr)
  try replace HI2 := hI (HI2.out.below hb rr)
  try clear hb
  go_wp2_with fail
  have HAPA := hI (built_word w4 [sA, sP, sA] 24 (by simp))
  have hb : Below w4.heap.size w4 (w4.alloc (.cells (wcells [sA, sP, sA]).toArray 24)) := bel
  replace HB0 := hI (HB0.out.trans (hb.mono HB0.out.size))
  replace HT := hI (HT.out.below hb rr)
  try replace HG := hI ((hb.block _ (lt_of_block HG.out)).trans HG.out)
  try replace HGA := hI (HGA.out.below hb rr)
  try replace HAPA := hI (HAPA.out.below hb rr)
  try replace HPAP := hI (HPAP.out.below hb rr)
  try replace HPA := hI (HPA.out.below hb rr)
  try replace HBAD := hI (HBAD.out.below hb rr)
  try replace HLONG := hI (HLONG.out.below hb rr)
  try replace HLAWS := hI (HLAWS.out.below hb rr)
  try replace HOVER := hI (HOVER.out.below hb rr)
  try replace HVF := hI (HVF.out.below hb rr)
  try replace HLA := hI (HLA.out.below hb rr)
  try replace HLB := hI (HLB.out.below hb rr)
  try replace HLC := hI (HLC.out.below hb rr)
  try replace HX := hI (HX.out.below hb rr)
  try replace HY := hI (HY.out.below hb rr)
  try replace HZ := hI (HZ.out.below hb rr)
  try replace HU := hI (HU.out.below hb rr)
  try replace HV := hI (HV.out.below hb rr)
  try replace HP := hI (HP.out.below hb rr)
  try replace HQ := hI (HQ.out.below hb rr)
  try replace HI1 := hI (HI1.out.below hb rr)
  try replace HI2 := hI (HI2.out.below hb rr)
  try clear hb
  rw [show w4.alloc (.cells #[.int .u32 sA.1, .int .u32 sA.2, .int .u32 sP.1, .int .u32 sP.2, .int .u32 sA.1, .int .u32 sA.2] 24) = w4.alloc (.cells (wcells [sA, sP, sA]).toArray 24) from rfl]
  generalize w4.alloc (.cells (wcells [sA, sP, sA]).toArray 24) = w5 at *
  go_wp2_with fail
  refine (exP_c _).mono ?_
  rintro e w6 ⟨rfl, hb⟩
  replace HB0 := hI (HB0.out.trans (hb.mono HB0.out.size))
  replace HT := hI (HT.out.below hb rr)
  try replace HG := hI ((hb.block _ (lt_of_block HG.out)).trans HG.out)
  try replace HGA := hI (HGA.out.below hb rr)
  try replace HAPA := hI (HAPA.out.below hb rr)
  try replace HPAP := hI (HPAP.out.below hb rr)
  try replace HPA := hI (HPA.out.below hb rr)
  try replace HBAD := hI (HBAD.out.below hb rr)
  try replace HLONG := hI (HLONG.out.below hb rr)
  try replace HLAWS := hI (HLAWS.out.below hb rr)
  try replace HOVER := hI (HOVER.out.below hb rr)
  try replace HVF := hI (HVF.out.below hb rr)
  try replace HLA := hI (HLA.out.below hb rr)
  try replace HLB := hI (HLB.out.below hb rr)
  try replace HLC := hI (HLC.out.below hb rr)
  try replace HX := hI (HX.out.below hb rr)
  try replace HY := hI (HY.out.below hb rr)
  try replace HZ := hI (HZ.out.below hb rr)
  try replace HU := hI (HU.out.below hb rr)
  try replace HV := hI (HV.out.below hb rr)
  try replace HP := hI (HP.out.below hb rr)
  try replace HQ := hI (HQ.out.below hb rr)
  try replace HI1 := hI (HI1.out.below hb rr)
  try replace HI2 := hI (HI2.out.below hb rr)
  try clear hb
  go_wp2_with fail
  refine (exA_c _).mono ?_
  rintro e w7 ⟨rfl, hb⟩
  replace HB0 := hI (HB0.out.trans (hb.mono HB0.out.size))
  replace HT := hI (HT.out.below hb rr)
  try replace HG := hI ((hb.block _ (lt_of_block HG.out)).trans HG.out)
  try replace HGA := hI (HGA.out.below hb rr)
  try replace HAPA := hI (HAPA.out.below hb rr)
  try replace HPAP := hI (HPAP.out.below hb rr)
  try replace HPA := hI (HPA.out.below hb rr)
  try replace HBAD := hI (HBAD.out.below hb rr)
  try replace HLONG := hI (HLONG.out.below hb rr)
  try replace HLAWS := hI (HLAWS.out.below hb rr)
  try replace HOVER := hI (HOVER.out.below hb rr)
  try replace HVF := hI (HVF.out.below hb rr)
  try replace HLA := hI (HLA.out.below hb rr)
  try replace HLB := hI (HLB.out.below hb rr)
  try replace HLC := hI (HLC.out.below hb rr)
  try replace HX := hI (HX.out.below hb rr)
  try replace HY := hI (HY.out.below hb rr)
  try replace HZ := hI (HZ.out.below hb rr)
  try replace HU := hI (HU.out.below hb rr)
  try replace HV := hI (HV.out.below hb rr)
  try replace HP := hI (HP.out.below hb rr)
  try replace HQ := hI (HQ.out.below hb rr)
  try replace HI1 := hI (HI1.out.below hb rr)
  try replace HI2 := hI (HI2.out.below hb rr)
  try clear hb
  go_wp2_with fail
  refine (exP_c _).mono ?_
  rintro e w8 ⟨rfl, hb⟩
  replace HB0 := hI (HB0.out.trans (hb.mono HB0.out.size))
  replace HT := hI (HT.out.below hb rr)
  try replace HG := hI ((hb.block _ (lt_of_block HG.out)).trans HG.out)
  try replace HGA := hI (HGA.out.below hb rr)
  try replace HAPA := hI (HAPA.out.below hb rr)
  try replace HPAP := hI (HPAP.out.below hb rr)
  try replace HPA := hI (HPA.out.below hb rr)
  try replace HBAD := hI (HBAD.out.below hb rr)
  try replace HLONG := hI (HLONG.out.below hb rr)
  try replace HLAWS := hI (HLAWS.out.below hb rr)
  try replace HOVER := hI (HOVER.out.below hb rr)
  try replace HVF := hI (HVF.out.below hb rr)
  try replace HLA := hI (HLA.out.below hb rr)
  try replace HLB := hI (HLB.out.below hb rr)
  try replace HLC := hI (HLC.out.below hb rr)
  try replace HX := hI (HX.out.below hb rr)
  try replace HY := hI (HY.out.below hb rr)
  try replace HZ := hI (HZ.out.below hb rr)
  try replace HU := hI (HU.out.below hb rr)
  try replace HV := hI (HV.out.below hb rr)
  try replace HP := hI (HP.out.below hb rr)
  try replace HQ := hI (HQ.out.below hb rr)
  try replace HI1 := hI (HI1.out.below hb rr)
  try replace HI2 := hI (HI2.out.below hb rr)
  try clear hb
  go_wp2_with fail
  have HPAP := hI (built_word w8 [sP, sA, sP] 24 (by simp))
  have hb : Below w8.heap.size w8 (w8.alloc (.cells (wcells [sP, sA, sP]).toArray 24)) := bel
  replace HB0 := hI (HB0.out.trans (hb.mono HB0.out.size))
  replace HT := hI (HT.out.below hb rr)
  try replace HG := hI ((hb.block _ (lt_of_block HG.out)).trans HG.out)
  try replace HGA := hI (HGA.out.below hb rr)
  try replace HAPA := hI (HAPA.out.below hb rr)
  try replace HPAP := hI (HPAP.out.below hb rr)
  try replace HPA := hI (HPA.out.below hb rr)
  try replace HBAD := hI (HBAD.out.below hb rr)
  try replace HLONG := hI (HLONG.out.below hb rr)
  try replace HLAWS := hI (HLAWS.out.below hb rr)
  try replace HOVER := hI (HOVER.out.below hb rr)
  try replace HVF := hI (HVF.out.below hb rr)
  try replace HLA := hI (HLA.out.below hb rr)
  try replace HLB := hI (HLB.out.below hb rr)
  try replace HLC := hI (HLC.out.below hb rr)
  try replace HX := hI (HX.out.below hb rr)
  try replace HY := hI (HY.out.below hb rr)
  try replace HZ := hI (HZ.out.below hb rr)
  try replace HU := hI (HU.out.below hb rr)
  try replace HV := hI (HV.out.below hb rr)
  try replace HP := hI (HP.out.below hb rr)
  try replace HQ := hI (HQ.out.below hb rr)
  try replace HI1 := hI (HI1.out.below hb rr)
  try replace HI2 := hI (HI2.out.below hb rr)
  try clear hb
  rw [show w8.alloc (.cells #[.int .u32 sP.1, .int .u32 sP.2, .int .u32 sA.1, .int .u32 sA.2, .int .u32 sP.1, .int .u32 sP.2] 24) = w8.alloc (.cells (wcells [sP, sA, sP]).toArray 24) from rfl]
  generalize w8.alloc (.cells (wcells [sP, sA, sP]).toArray 24) = w9 at *
  go_wp2_with fail
  refine (exP_c _).mono ?_
  rintro e w10 ⟨rfl, hb⟩
  replace HB0 := hI (HB0.out.trans (hb.mono HB0.out.size))
  replace HT := hI (HT.out.below hb rr)
  try replace HG := hI ((hb.block _ (lt_of_block HG.out)).trans HG.out)
  try replace HGA := hI (HGA.out.below hb rr)
  try replace HAPA := hI (HAPA.out.below hb rr)
  try replace HPAP := hI (HPAP.out.below hb rr)
  try replace HPA := hI (HPA.out.below hb rr)
  try replace HBAD := hI (HBAD.out.below hb rr)
  try replace HLONG := hI (HLONG.out.below hb rr)
  try replace HLAWS := hI (HLAWS.out.below hb rr)
  try replace HOVER := hI (HOVER.out.below hb rr)
  try replace HVF := hI (HVF.out.below hb rr)
  try replace HLA := hI (HLA.out.below hb rr)
  try replace HLB := hI (HLB.out.below hb rr)
  try replace HLC := hI (HLC.out.below hb rr)
  try replace HX := hI (HX.out.below hb rr)
  try replace HY := hI (HY.out.below hb rr)
  try replace HZ := hI (HZ.out.below hb rr)
  try replace HU := hI (HU.out.below hb rr)
  try replace HV := hI (HV.out.below hb rr)
  try replace HP := hI (HP.out.below hb rr)
  try replace HQ := hI (HQ.out.below hb rr)
  try replace HI1 := hI (HI1.out.below hb rr)
  try replace HI2 := hI (HI2.out.below hb rr)
  try clear hb
  go_wp2_with fail
  refine (exA_c _).mono ?_
  rintro e w11 ⟨rfl, hb⟩
  replace HB0 := hI (HB0.out.trans (hb.mono HB0.out.size))
  replace HT := hI (HT.out.below hb rr)
  try replace HG := hI ((hb.block _ (lt_of_block HG.out)).trans HG.out)
  try replace HGA := hI (HGA.out.below hb rr)
  try replace HAPA := hI (HAPA.out.below hb rr)
  try replace HPAP := hI (HPAP.out.below hb rr)
  try replace HPA := hI (HPA.out.below hb rr)
  try replace HBAD := hI (HBAD.out.below hb rr)
  try replace HLONG := hI (HLONG.out.below hb rr)
  try replace HLAWS := hI (HLAWS.out.below hb rr)
  try replace HOVER := hI (HOVER.out.below hb rr)
  try replace HVF := hI (HVF.out.below hb rr)
  try replace HLA := hI (HLA.out.below hb rr)
  try replace HLB := hI (HLB.out.below hb rr)
  try replace HLC := hI (HLC.out.below hb rr)
  try replace HX := hI (HX.out.below hb rr)
  try replace HY := hI (HY.out.below hb rr)
  try replace HZ := hI (HZ.out.below hb rr)
  try replace HU := hI (HU.out.below hb rr)
  try replace HV := hI (HV.out.below hb rr)
  try replace HP := hI (HP.out.below hb rr)
  try replace HQ := hI (HQ.out.below hb rr)
  try replace HI1 := hI (HI1.out.below hb rr)
  try replace HI2 := hI (HI2.out.below hb rr)
  try clear hb
  have hmk1 : ∀ W : World, (Instr.makeSlice 32 (.int .i64 32) (.int .i64 32)).run Tryz.prog W = _ := fun W => run_make_word 32 (by decide) W
  have hmk2 : ∀ W : World, (Instr.makeSlice 35 (.int .i64 64) (.int .i64 64)).run Tryz.prog W = _ := fun W => run_mk_lawsZ 64 (by decide) W
  obtain ⟨LW, hLW⟩ : ∃ LW, LW = (wcells (List.replicate 32 (0, 0))).toArray := ⟨_, rfl⟩
  obtain ⟨LL, hLL⟩ : ∃ LL, LL = ((List.replicate 64 zlR).flatMap LawR.cells).toArray := ⟨_, rfl⟩
  rw [← hLW] at hmk1
  rw [← hLL] at hmk2
  have hpa := built_word w11 [sP, sA] 24 (by simp)
  have hba := built_word (w11.alloc (.cells (wcells [sP, sA]).toArray 24)) badW 24 (by simp [badW])
  have hlo := built_word ((w11.alloc (.cells (wcells [sP, sA]).toArray 24)).alloc (.cells (wcells badW).toArray 24)) longW 24 (by simp [longW])
  rw [show longW.length = 32 by simp [longW], show wcells longW = wcells (List.replicate 32 (0, 0)) from rfl, ← hLW] at hlo
  have hb : Below w11.heap.size w11 (((w11.alloc (.cells (wcells [sP, sA]).toArray 24)).alloc (.cells (wcells badW).toArray 24)).alloc (.cells LW 24)) := bel
  have HLW := hI hLW; have HLL := hI hLL
  have HPA := hI (hpa.below (B := w11.heap.size + 1) (w' := ((w11.alloc (.cells (wcells [sP, sA]).toArray 24)).alloc (.cells (wcells badW).toArray 24)).alloc (.cells LW 24)) bel (by simp))
  simp only [World.size_alloc] at hba
  have HBAD := hI (hba.below (B := w11.heap.size + 1 + 1) (w' := ((w11.alloc (.cells (wcells [sP, sA]).toArray 24)).alloc (.cells (wcells badW).toArray 24)).alloc (.cells LW 24)) bel (by simp))
  simp only [World.size_alloc] at hlo
  have HLONG := hI hlo
  clear hLW hLL hpa hba hlo
  go_wp2_with fail
  clear hmk1 hmk2
  obtain ⟨V, hV⟩ : ∃ V, V = ((w11.alloc (.cells (wcells [sP, sA]).toArray 24)).alloc (.cells (wcells badW).toArray 24)).alloc (.cells LW 24) := ⟨_, rfl⟩
  rw [show ((w11.alloc (.cells #[.int .u32 sP.1, .int .u32 sP.2, .int .u32 sA.1, .int .u32 sA.2] 24)).alloc (.cells #[.int .u32 1, .int .u32 1] 24)).alloc (.cells LW 24) = V from hV.symm]
  rw [← hV] at hb HPA HBAD HLONG
  have hgV : w11.heap.size + 1 + 1 + 1 = V.heap.size := by rw [hV]; simp
  rw [hgV]
  clear hV
  replace HB0 := hI (HB0.out.trans (hb.mono HB0.out.size))
  replace HT := hI (HT.out.below hb rr)
  try replace HG := hI ((hb.block _ (lt_of_block HG.out)).trans HG.out)
  try replace HGA := hI (HGA.out.below hb rr)
  try replace HAPA := hI (HAPA.out.below hb rr)
  try replace HPAP := hI (HPAP.out.below hb rr)
  try replace HPA := hI (HPA.out.below hb rr)
  try replace HBAD := hI (HBAD.out.below hb rr)
  try replace HLONG := hI (HLONG.out.below hb rr)
  try replace HLAWS := hI (HLAWS.out.below hb rr)
  try replace HOVER := hI (HOVER.out.below hb rr)
  try replace HVF := hI (HVF.out.below hb rr)
  try replace HLA := hI (HLA.out.below hb rr)
  try replace HLB := hI (HLB.out.below hb rr)
  try replace HLC := hI (HLC.out.below hb rr)
  try replace HX := hI (HX.out.below hb rr)
  try replace HY := hI (HY.out.below hb rr)
  try replace HZ := hI (HZ.out.below hb rr)
  try replace HU := hI (HU.out.below hb rr)
  try replace HV := hI (HV.out.below hb rr)
  try replace HP := hI (HP.out.below hb rr)
  try replace HQ := hI (HQ.out.below hb rr)
  try replace HI1 := hI (HI1.out.below hb rr)
  try replace HI2 := hI (HI2.out.below hb rr)
  try clear hb
  obtain ⟨bq, hbq⟩ : ∃ bq, bq = w4.heap.size := ⟨_, rfl⟩
  obtain ⟨bp, hbp⟩ : ∃ bp, bp = w8.heap.size := ⟨_, rfl⟩
  obtain ⟨br, hbr⟩ : ∃ br, br = w11.heap.size := ⟨_, rfl⟩
  obtain ⟨g, hg⟩ : ∃ g, g = V.heap.size := ⟨_, rfl⟩
  rw [← hbq] at HAPA ⊢
  rw [← hbp] at HPAP ⊢
  rw [← hbr] at HPA HBAD HLONG ⊢
  rw [← hg]
  clear hbq hbp hbr hgV
  have hown0 := own_mk_laws V 64 (by decide)
  rw [← HLL.out, ← hg] at hown0
  have HOWN := hI hown0
  have hbV : Below V.heap.size V (V.alloc (.cells LL 34)) := bel
  have hgv := Nat.le_of_eq hg
  have HGV := hI hg.symm
  clear hg
  generalize V.alloc (.cells LL 34) = V1 at *
  go_loopw [8] (fun i wr => ∃ (k : Nat) (bs : List Nat), i = .int .i64 k ∧ k ≤ 64 ∧ Hid (bs.length = k) ∧ Hid (wr.ownsRow g 34 18 (.slice (some ⟨g, 0, none⟩) 64 64) 64 ((bs.map mkF ++ List.replicate (64 - k) zlR).flatMap LawR.cells)) ∧
    Hid (∀ b ∈ bs, g < b ∧ IsWord wr (some ⟨b, 0, none⟩) 1 1 [(4, 0)]) ∧ Below V.heap.size V wr) (fun i _ => 64 - (intOf i).toNat)
  case atStart => exact ⟨0, [], rfl, Nat.zero_le _, rfl, HOWN.out, fun b hb => by simp at hb, hbV⟩
  case round =>
   obtain ⟨k, bs, rfl, hk, hbl, hown, hws, hBk⟩ := hrel
   have hgk : g < wr.heap.size := by
    rcases hown.out.2 with ⟨h, _⟩ | ⟨g', cap, cur, hv, hb, hg', _⟩
    ·cases h
    ·cases hv; exact lt_of_block hg'
   by_cases hlt : k < 64
   ·have hk1 : (k : Int) < 64 := by omega
    go_wp2_with fail
    refine (exFF_c wr).mono ?_
    rintro e w2 ⟨b, rfl, hbw, hla, hb2⟩
    have hown2 := own_heap hown.out fun j e => hb2.block j (hown.out.lt j e).2
    have hwb : IsWord w2 (some ⟨b, 0, none⟩) 1 1 [(4, 0)] := hla.2.2.1
    have HWB := hI hwb
    have HWS2 : Hid (∀ b ∈ bs, g < b ∧ IsWord w2 (some ⟨b, 0, none⟩) 1 1 [(4, 0)]) := fun b hb => ⟨(hws.out b hb).1, (hws.out b hb).2.below hb2 rr⟩
    have HB2 := hI (hBk.trans (hb2.mono hBk.size))
    have HOWN2 := hI hown2
    clear hla hwb hb2 hown2
    go_wp2_with (refine store_law_keep rfl (.tmp 84) (.tmp 83) rfl HOWN2.out (k := k) hlt (mkF b) rfl rfl ?hst)
    case hst =>
     intro W h1 h2 h3
     rw [← hbl.out, mkF_set bs b (by rw [hbl.out]; exact hlt), hbl.out] at h1
     have HOWN3 := hI h1
     have hnew : ∀ x ∈ bs ++ [b], g < x ∧ IsWord W (some ⟨x, 0, none⟩) 1 1 [(4, 0)] := fun x hx => by
      have hx' : g < x ∧ IsWord w2 (some ⟨x, 0, none⟩) 1 1 [(4, 0)] := by
       rcases List.mem_append.1 hx with hx | hx
       ·exact HWS2.out x hx
       ·obtain rfl : x = b := by simpa using hx
        exact ⟨by omega, HWB.out⟩
      exact ⟨hx'.1, hx'.2.keep h2 fun _ ad had e => by cases had; simp only at e; omega⟩
     have HNEW := hI hnew
     have hB3 : Below V.heap.size V W := HB2.out.trans (h2.to_below (B := V.heap.size) (fun j hj => by have := HGV.out; omega) HB2.out.size)
     clear h1 h2 h3 hnew
     go_wp2
     go_roundw
     case rel => exact ⟨k + 1, bs ++ [b], by go_num, by omega, by simp [Hid, hbl.out], HOWN3.out, HNEW.out, hB3⟩
     case measure => simp [intOf]; omega
   ·obtain rfl : k = 64 := by omega
    have hb : Below V.heap.size V wr := hBk
    rw [show (64 - 64 : Nat) = 0 from rfl, List.replicate_zero, List.append_nil] at hown
    obtain ⟨xs, hxs⟩ : ∃ xs, xs = bs.map mkF := ⟨_, rfl⟩
    rw [← hxs] at hown
    have hxd : lawsD xs = List.replicate 64 fD := by rw [hxs, mkF_data, hbl.out]
    have hxa : ∀ x ∈ xs, LawAt wr x.l x.a := fun x hx => by
     rw [hxs] at hx
     obtain ⟨b, hb, rfl⟩ := List.mem_map.1 hx
     exact mkF_at (hws.out b hb).2
    have HLAWS : Hid (IsLaws wr (some ⟨g, 0, none⟩) 64 64 xs) := ⟨Recs.of_own hown.out LawR.len (by decide), hxa⟩
    have HXD := hI hxd
    clear hxd hxa hxs hown hws hbl hBk HOWN hbV HLL HLW hown0 hgk hk hlt
    replace HB0 := hI (HB0.out.trans (hb.mono HB0.out.size))
    replace HT := hI (HT.out.below hb rr)
    try replace HG := hI ((hb.block _ (lt_of_block HG.out)).trans HG.out)
    try replace HGA := hI (HGA.out.below hb rr)
    try replace HAPA := hI (HAPA.out.below hb rr)
    try replace HPAP := hI (HPAP.out.below hb rr)
    try replace HPA := hI (HPA.out.below hb rr)
    try replace HBAD := hI (HBAD.out.below hb rr)
    try replace HLONG := hI (HLONG.out.below hb rr)
    try replace HLAWS := hI (HLAWS.out.below hb rr)
    try replace HOVER := hI (HOVER.out.below hb rr)
    try replace HVF := hI (HVF.out.below hb rr)
    try replace HLA := hI (HLA.out.below hb rr)
    try replace HLB := hI (HLB.out.below hb rr)
    try replace HLC := hI (HLC.out.below hb rr)
    try replace HX := hI (HX.out.below hb rr)
    try replace HY := hI (HY.out.below hb rr)
    try replace HZ := hI (HZ.out.below hb rr)
    try replace HU := hI (HU.out.below hb rr)
    try replace HV := hI (HV.out.below hb rr)
    try replace HP := hI (HP.out.below hb rr)
    try replace HQ := hI (HQ.out.below hb rr)
    try replace HI1 := hI (HI1.out.below hb rr)
    try replace HI2 := hI (HI2.out.below hb rr)
    try clear hb
    have how0 : (wr.alloc (.cells #[] 34)).ownsRow wr.heap.size 34 18 (.slice (some ⟨wr.heap.size, 0, none⟩) 0 0) 0 (([] : List LawR).flatMap LawR.cells) := World.ownsRow_lit wr #[] 0 rr (by decide) rfl
    have hrc0 := HLAWS.out.1.below (show Below wr.heap.size wr (wr.alloc (.cells #[] 34)) from bel) rr
    go_wp2_with (at_builtin; refine append_laws rfl (.tmp 85) (.tmp 86) rfl wr.heap.size (.slice (some ⟨wr.heap.size, 0, none⟩) 0 0) 0 [] rfl how0 (some ⟨g, 0, none⟩) 64 64 xs rfl hrc0 (by omega) (by simp) ?ha1)
    case ha1 =>
     intro v1 w3 hown1 hg1 _
     have hbx : Below wr.heap.size wr w3 := (show Below wr.heap.size wr (wr.alloc (.cells #[] 34)) from bel).grown hg1 (by simp) (fun q hq => by cases hq; exact rr)
     have HBX := hI hbx
     have HOWN1 := hI hown1
     have hbs3 := hbx.size
     clear how0 hrc0 hown1 hg1 hbx
     go_wp2_with (refine law1A rfl (.tmp 88) rfl zlR rfl (zero_at _) ?hb1)
     case hb1 =>
      intro W4 hl1 hb4 hz4 how4
      have HOW1 := hI (how4 HOWN1.out)
      have HBX4 := hI (HBX.out.trans (hb4.mono hbs3))
      have HL1 := hI hl1
      obtain ⟨b3, hb3⟩ : ∃ b3, b3 = w3.heap.size := ⟨_, rfl⟩
      rw [← hb3] at HL1 ⊢
      clear hl1 how4 HOWN1 hb3 hb4
      go_wp2_with (at_builtin; refine append_laws rfl (.tmp 87) (.tmp 89) rfl wr.heap.size v1 64 xs rfl HOW1.out (some ⟨b3, 0, none⟩) 1 1 [zlR] rfl HL1.out.1 (by omega) (by omega) ?ha2)
      case ha2 =>
       intro v2 W5 hown2 hg2 _
       have hb : Below wr.heap.size wr W5 := HBX4.out.grown hg2 (by omega) (fun q hq => (HOW1.out.lt q hq).1)
       have hov : ∀ x ∈ xs ++ [zlR], LawAt W5 x.l x.a := fun x hx => by
        rcases List.mem_append.1 hx with hx | hx
        ·exact (HLAWS.out.2 x hx).below hb rr
        ·obtain rfl : x = zlR := by simpa using hx
         exact zero_at _
       replace HB0 := hI (HB0.out.trans (hb.mono HB0.out.size))
       replace HT := hI (HT.out.below hb rr)
       try replace HG := hI ((hb.block _ (lt_of_block HG.out)).trans HG.out)
       try replace HGA := hI (HGA.out.below hb rr)
       try replace HAPA := hI (HAPA.out.below hb rr)
       try replace HPAP := hI (HPAP.out.below hb rr)
       try replace HPA := hI (HPA.out.below hb rr)
       try replace HBAD := hI (HBAD.out.below hb rr)
       try replace HLONG := hI (HLONG.out.below hb rr)
       try replace HLAWS := hI (HLAWS.out.below hb rr)
       try replace HOVER := hI (HOVER.out.below hb rr)
       try replace HVF := hI (HVF.out.below hb rr)
       try replace HLA := hI (HLA.out.below hb rr)
       try replace HLB := hI (HLB.out.below hb rr)
       try replace HLC := hI (HLC.out.below hb rr)
       try replace HX := hI (HX.out.below hb rr)
       try replace HY := hI (HY.out.below hb rr)
       try replace HZ := hI (HZ.out.below hb rr)
       try replace HU := hI (HU.out.below hb rr)
       try replace HV := hI (HV.out.below hb rr)
       try replace HP := hI (HP.out.below hb rr)
       try replace HQ := hI (HQ.out.below hb rr)
       try replace HI1 := hI (HI1.out.below hb rr)
       try replace HI2 := hI (HI2.out.below hb rr)
       try clear hb
       obtain ⟨A9, c9, rfl⟩ := own_form hown2
       have HOVER : Hid (IsLaws W5 A9 65 c9 (xs ++ [zlR])) := ⟨Recs.of_own (base := wr.heap.size) (e := 34) (by rw [List.flatMap_append, List.flatMap_singleton]; exact hown2) LawR.len (by decide), hov⟩
       have HXO : Hid (lawsE (lawsD (xs ++ [zlR])) = 12) := by show _ = _; rw [lawsD, List.map_append]; show lawsE (lawsD xs ++ [zlD]) = 12; rw [HXD.out]; exact kn_over _
       clear hown2 hg2 hov HBX HBX4 HOW1 HL1 hz4 hbs3
       go_wp2_with fail
       refine (dCheck_c _ 64 64 xs W5 HLAWS.out).mono ?_
       rintro e w6 ⟨rfl, hb⟩
       rw [show lawsE (lawsD xs) = 0 by rw [HXD.out]; exact kn_laws]
       replace HB0 := hI (HB0.out.trans (hb.mono HB0.out.size))
       replace HT := hI (HT.out.below hb rr)
       try replace HG := hI ((hb.block _ (lt_of_block HG.out)).trans HG.out)
       try replace HGA := hI (HGA.out.below hb rr)
       try replace HAPA := hI (HAPA.out.below hb rr)
       try replace HPAP := hI (HPAP.out.below hb rr)
       try replace HPA := hI (HPA.out.below hb rr)
       try replace HBAD := hI (HBAD.out.below hb rr)
       try replace HLONG := hI (HLONG.out.below hb rr)
       try replace HLAWS := hI (HLAWS.out.below hb rr)
       try replace HOVER := hI (HOVER.out.below hb rr)
       try replace HVF := hI (HVF.out.below hb rr)
       try replace HLA := hI (HLA.out.below hb rr)
       try replace HLB := hI (HLB.out.below hb rr)
       try replace HLC := hI (HLC.out.below hb rr)
       try replace HX := hI (HX.out.below hb rr)
       try replace HY := hI (HY.out.below hb rr)
       try replace HZ := hI (HZ.out.below hb rr)
       try replace HU := hI (HU.out.below hb rr)
       try replace HV := hI (HV.out.below hb rr)
       try replace HP := hI (HP.out.below hb rr)
       try replace HQ := hI (HQ.out.below hb rr)
       try replace HI1 := hI (HI1.out.below hb rr)
       try replace HI2 := hI (HI2.out.below hb rr)
       try clear hb
       go_wp2_with fail
       refine (dCheck_c _ 65 c9 _ w6 HOVER.out).mono ?_
       rintro e w7 ⟨rfl, hb⟩
       rw [HXO.out]
       replace HB0 := hI (HB0.out.trans (hb.mono HB0.out.size))
       replace HT := hI (HT.out.below hb rr)
       try replace HG := hI ((hb.block _ (lt_of_block HG.out)).trans HG.out)
       try replace HGA := hI (HGA.out.below hb rr)
       try replace HAPA := hI (HAPA.out.below hb rr)
       try replace HPAP := hI (HPAP.out.below hb rr)
       try replace HPA := hI (HPA.out.below hb rr)
       try replace HBAD := hI (HBAD.out.below hb rr)
       try replace HLONG := hI (HLONG.out.below hb rr)
       try replace HLAWS := hI (HLAWS.out.below hb rr)
       try replace HOVER := hI (HOVER.out.below hb rr)
       try replace HVF := hI (HVF.out.below hb rr)
       try replace HLA := hI (HLA.out.below hb rr)
       try replace HLB := hI (HLB.out.below hb rr)
       try replace HLC := hI (HLC.out.below hb rr)
       try replace HX := hI (HX.out.below hb rr)
       try replace HY := hI (HY.out.below hb rr)
       try replace HZ := hI (HZ.out.below hb rr)
       try replace HU := hI (HU.out.below hb rr)
       try replace HV := hI (HV.out.below hb rr)
       try replace HP := hI (HP.out.below hb rr)
       try replace HQ := hI (HQ.out.below hb rr)
       try replace HI1 := hI (HI1.out.below hb rr)
       try replace HI2 := hI (HI2.out.below hb rr)
       try clear hb
       clear HOVER HXO
       go_wp2_with (refine law1W (by rfl) (.tmp 100) rfl zlR rfl (zero_at _) ?hc1)
       case hc1 =>
        intro W8 hl1 hb hz8
        replace HB0 := hI (HB0.out.trans (hb.mono HB0.out.size))
        replace HT := hI (HT.out.below hb rr)
        try replace HG := hI ((hb.block _ (lt_of_block HG.out)).trans HG.out)
        try replace HGA := hI (HGA.out.below hb rr)
        try replace HAPA := hI (HAPA.out.below hb rr)
        try replace HPAP := hI (HPAP.out.below hb rr)
        try replace HPA := hI (HPA.out.below hb rr)
        try replace HBAD := hI (HBAD.out.below hb rr)
        try replace HLONG := hI (HLONG.out.below hb rr)
        try replace HLAWS := hI (HLAWS.out.below hb rr)
        try replace HOVER := hI (HOVER.out.below hb rr)
        try replace HVF := hI (HVF.out.below hb rr)
        try replace HLA := hI (HLA.out.below hb rr)
        try replace HLB := hI (HLB.out.below hb rr)
        try replace HLC := hI (HLC.out.below hb rr)
        try replace HX := hI (HX.out.below hb rr)
        try replace HY := hI (HY.out.below hb rr)
        try replace HZ := hI (HZ.out.below hb rr)
        try replace HU := hI (HU.out.below hb rr)
        try replace HV := hI (HV.out.below hb rr)
        try replace HP := hI (HP.out.below hb rr)
        try replace HQ := hI (HQ.out.below hb rr)
        try replace HI1 := hI (HI1.out.below hb rr)
        try replace HI2 := hI (HI2.out.below hb rr)
        try clear hb
        go_wp2_with fail
        refine (dCheck_c _ 1 1 _ W8 hl1).mono ?_
        rintro e w9 ⟨rfl, hb⟩
        rw [show lawsE (lawsD [zlR]) = 17 from kn_zero]
        clear hl1 hz8
        replace HB0 := hI (HB0.out.trans (hb.mono HB0.out.size))
        replace HT := hI (HT.out.below hb rr)
        try replace HG := hI ((hb.block _ (lt_of_block HG.out)).trans HG.out)
        try replace HGA := hI (HGA.out.below hb rr)
        try replace HAPA := hI (HAPA.out.below hb rr)
        try replace HPAP := hI (HPAP.out.below hb rr)
        try replace HPA := hI (HPA.out.below hb rr)
        try replace HBAD := hI (HBAD.out.below hb rr)
        try replace HLONG := hI (HLONG.out.below hb rr)
        try replace HLAWS := hI (HLAWS.out.below hb rr)
        try replace HOVER := hI (HOVER.out.below hb rr)
        try replace HVF := hI (HVF.out.below hb rr)
        try replace HLA := hI (HLA.out.below hb rr)
        try replace HLB := hI (HLB.out.below hb rr)
        try replace HLC := hI (HLC.out.below hb rr)
        try replace HX := hI (HX.out.below hb rr)
        try replace HY := hI (HY.out.below hb rr)
        try replace HZ := hI (HZ.out.below hb rr)
        try replace HU := hI (HU.out.below hb rr)
        try replace HV := hI (HV.out.below hb rr)
        try replace HP := hI (HP.out.below hb rr)
        try replace HQ := hI (HQ.out.below hb rr)
        try replace HI1 := hI (HI1.out.below hb rr)
        try replace HI2 := hI (HI2.out.below hb rr)
        try clear hb
        go_wp2_with fail
        refine (dCheck_c none 0 0 [] w9 ⟨⟨Cells.nil _ _, rfl⟩, fun x hx => by simp at hx⟩).mono ?_
        rintro e w10 ⟨rfl, hb⟩
        rw [show lawsE (lawsD []) = 0 from rfl]
        replace HB0 := hI (HB0.out.trans (hb.mono HB0.out.size))
        replace HT := hI (HT.out.below hb rr)
        try replace HG := hI ((hb.block _ (lt_of_block HG.out)).trans HG.out)
        try replace HGA := hI (HGA.out.below hb rr)
        try replace HAPA := hI (HAPA.out.below hb rr)
        try replace HPAP := hI (HPAP.out.below hb rr)
        try replace HPA := hI (HPA.out.below hb rr)
        try replace HBAD := hI (HBAD.out.below hb rr)
        try replace HLONG := hI (HLONG.out.below hb rr)
        try replace HLAWS := hI (HLAWS.out.below hb rr)
        try replace HOVER := hI (HOVER.out.below hb rr)
        try replace HVF := hI (HVF.out.below hb rr)
        try replace HLA := hI (HLA.out.below hb rr)
        try replace HLB := hI (HLB.out.below hb rr)
        try replace HLC := hI (HLC.out.below hb rr)
        try replace HX := hI (HX.out.below hb rr)
        try replace HY := hI (HY.out.below hb rr)
        try replace HZ := hI (HZ.out.below hb rr)
        try replace HU := hI (HU.out.below hb rr)
        try replace HV := hI (HV.out.below hb rr)
        try replace HP := hI (HP.out.below hb rr)
        try replace HQ := hI (HQ.out.below hb rr)
        try replace HI1 := hI (HI1.out.below hb rr)
        try replace HI2 := hI (HI2.out.below hb rr)
        try clear hb
        have hmk : ∀ W : World, (Instr.makeSlice 32 (.int .i64 0) (.int .i64 4)).run Tryz.prog W = _ := run_mk04
        go_upto_region 13 with fail
        go_cut [10, 11] from 109 to 120 (fun s10 s11 wx => ∃ (A0 : Option Addr) (c0 : Nat), s10 = .slice A0 0 c0 ∧ s11 = .int .i64 0 ∧ Below w10.heap.size w10 wx)
        case first =>
         have HFIN : Hid (∀ (X : World) (A4 : Option Addr) (c4 : Nat), Below w10.heap.size w10 X → IsWord X A4 4 c4 [sA, sA, sA, sA] → Calls Tryz.prog 19 #[.slice (some ⟨g, 0, none⟩) 64 64, .slice A4 4 c4] X (RetWE X (0, []))) := fun X A4 c4 hX hW => by
          have h := derive_c _ 64 64 xs A4 4 c4 [sA, sA, sA, sA] X (HLAWS.out.below hX rr) hW (HT.out.below hX rr)
          rw [HXD.out, kn_x] at h
          exact h
         clear HB0 HT HG HGA HAPA HPAP HPA HBAD HLONG HLAWS HXD
         refine plain_region (fun _ => True) (by kernel_rfl) trivial (fun hHeld => ?_)
         clear hHeld
         have HBX : Hid (Below w10.heap.size w10 w10.drew) := (Below.refl _ _).drew
         generalize w10.drew = X at *
         (refine' anyT_takeF (i := 0) (v := _) rfl (by kernel_rfl) (by kernel_rfl) (by kernel_rfl) (fun _ _ _ h => h) (Or.inl ⟨by rfl, fun w' hSw => by go_simp; (try with_reducible rfl)⟩) ?_; (try simp only [Act.put, nY, nX]))
         refine anyT_two (i := 1) (j := 2) (by kernel_rfl) rfl rfl (fun K' hK' => ?_) (fun K' hK' => ?_)
         all_goals rw [if_pos (by rfl)]
         ·unfold Oper.wp
          go_simp
          have hb : Below X.heap.size X (X.alloc (.cells (madeCells #[Value.int .u32 0, .int .u32 0] 8) 24)) := bel
          have HOW := hI (own_lo (own_mk04 X) HBX.out.size)
          try replace HW4 := hI (HW4.out.below hb rr)
          replace HBX := hI (HBX.out.trans (hb.mono HBX.out.size))
          refine hK' _ _ ⟨.inr trivial, fun _ => ?_⟩
          clear hK' K' hb
          obtain ⟨bm, hbm⟩ : ∃ bm, bm = X.heap.size := ⟨_, rfl⟩
          rw [← hbm] at HOW ⊢
          clear hbm
          generalize X.alloc (.cells (madeCells #[Value.int .u32 0, .int .u32 0] 8) 24) = X at *
          (try simp only [Act.put, nY, nX])
          refine anyT_sp 2 rfl (fun K' hK' => ?_)
          rw [if_pos (by rfl)]
          unfold Oper.wp
          go_simp
          refine (exA_c _).mono ?_
          rintro e X ⟨rfl, hb⟩
          replace HBX := hI (HBX.out.trans (hb.mono HBX.out.size))
          try replace HOW := hI (own_heap HOW.out fun j e => hb.block j (HOW.out.lt j e).2)
          try replace HW4 := hI (HW4.out.below hb rr)
          clear hb
          refine hK' _ _ ⟨.inr trivial, fun _ => ?_⟩
          clear hK' K'
          (try simp only [Act.put, nY, nX])
          refine anyT_sp 3 rfl (fun K' hK' => ?_)
          rw [if_pos (by rfl)]
          unfold Oper.wp
          go_simp
          refine (exA_c _).mono ?_
          rintro e X ⟨rfl, hb⟩
          replace HBX := hI (HBX.out.trans (hb.mono HBX.out.size))
          try replace HOW := hI (own_heap HOW.out fun j e => hb.block j (HOW.out.lt j e).2)
          try replace HW4 := hI (HW4.out.below hb rr)
          clear hb
          refine hK' _ _ ⟨.inr trivial, fun _ => ?_⟩
          clear hK' K'
          (try simp only [Act.put, nY, nX])
          refine anyT_sp 4 rfl (fun K' hK' => ?_)
          rw [if_pos (by rfl)]
          unfold Oper.wp
          go_simp
          refine (exA_c _).mono ?_
          rintro e X ⟨rfl, hb⟩
          replace HBX := hI (HBX.out.trans (hb.mono HBX.out.size))
          try replace HOW := hI (own_heap HOW.out fun j e => hb.block j (HOW.out.lt j e).2)
          try replace HW4 := hI (HW4.out.below hb rr)
          clear hb
          refine hK' _ _ ⟨.inr trivial, fun _ => ?_⟩
          clear hK' K'
          (try simp only [Act.put, nY, nX])
          refine anyT_sp 5 rfl (fun K' hK' => ?_)
          rw [if_pos (by rfl)]
          unfold Oper.wp
          go_simp
          refine (exA_c _).mono ?_
          rintro e X ⟨rfl, hb⟩
          replace HBX := hI (HBX.out.trans (hb.mono HBX.out.size))
          try replace HOW := hI (own_heap HOW.out fun j e => hb.block j (HOW.out.lt j e).2)
          try replace HW4 := hI (HW4.out.below hb rr)
          clear hb
          refine hK' _ _ ⟨.inr trivial, fun _ => ?_⟩
          clear hK' K'
          (try simp only [Act.put, nY, nX])
          refine anyT_sp 6 rfl (fun K' hK' => ?_)
          rw [if_pos (by rfl)]
          unfold Oper.wp
          go_simp
          have HW4 := hI (built_word X [sA, sA, sA, sA] 24 (by simp))
          have hb : Below X.heap.size X (X.alloc (.cells (wcells [sA, sA, sA, sA]).toArray 24)) := bel
          try replace HOW := hI (own_heap HOW.out fun j e => hb.block j (HOW.out.lt j e).2)
          replace HBX := hI (HBX.out.trans (hb.mono HBX.out.size))
          refine hK' _ _ ⟨.inr trivial, fun _ => ?_⟩
          clear hK' K' hb
          obtain ⟨bw, hbw⟩ : ∃ bw, bw = X.heap.size := ⟨_, rfl⟩
          rw [← hbw] at HW4 ⊢
          clear hbw
          change anyT _ _ _ _ _ _ _ _ (X.alloc (.cells (wcells [sA, sA, sA, sA]).toArray 24))
          generalize X.alloc (.cells (wcells [sA, sA, sA, sA]).toArray 24) = X at *
          (try simp only [Act.put, nY, nX])
          refine anyT_sp 7 rfl (fun K' hK' => ?_)
          rw [if_pos (by rfl)]
          refine upon_append_snd X (.tmp 111) (.tmp 116) rfl w10.heap.size _ 0 [] (by rfl) HOW.out _ 4 4 [sA, sA, sA, sA] (by rfl) HW4.out (by omega) HBX.out.size ?_
          intro v7 X7 hown7 hg7
          obtain ⟨A7, c7, rfl⟩ := own_form hown7
          have HW7 : Hid (IsWord X7 A7 4 c7 [sA, sA, sA, sA]) := Cells.of_own hown7 (by decide)
          have HB7 : Hid (Below w10.heap.size w10 X7) := HBX.out.grown hg7 HBX.out.size (fun q hq => (HOW.out.lt q hq).1)
          clear hown7 hg7 HOW HW4 HBX
          refine hK' _ _ ⟨.inr trivial, fun _ => ?_⟩
          clear hK' K'
          (try simp only [Act.put, nY, nX])
          refine anyT_sp 8 rfl (fun K' hK' => ?_)
          rw [if_pos (by rfl)]
          unfold Oper.wp
          go_simp
          refine (HFIN.out X7 A7 c7 HB7.out HW7.out).mono ?_
          rintro e X8 ⟨A8, n8, c8, rfl, hw8, hb8, _⟩
          obtain rfl : n8 = 0 := by have := hw8.len; simpa using this.symm
          have HB8 := hI (HB7.out.trans (hb8.mono HB7.out.size))
          clear hw8 hb8
          refine hK' _ _ ⟨.inr trivial, fun _ => ?_⟩
          clear hK' K'
          (try simp only [Act.put, nY, nX])
          (refine anyT_sp 9 rfl (fun K' hK' => ?_); simp only [nY]; go_simp)
          refine hK' _ _ ⟨.inr trivial, fun _ => ?_⟩
          clear hK' K'
          (try simp only [Act.put, nY, nX])
          (refine' anyT_takeF (i := 10) (v := _) rfl (by kernel_rfl) (by kernel_rfl) (by kernel_rfl) (fun _ _ _ h => h) (Or.inl ⟨by rfl, fun w' hSw => by go_simp; (try with_reducible rfl)⟩) ?_; (try simp only [Act.put, nY, nX])); (refine' anyT_takeF (i := 11) (v := _) rfl (by kernel_rfl) (by kernel_rfl) (by kernel_rfl) (fun _ _ _ h => h) (Or.inl ⟨by rfl, fun w' hSw => by go_simp; (try with_reducible rfl)⟩) ?_; (try simp only [Act.put, nY, nX]))
          (refine anyT_sp 12 rfl (fun K' hK' => ?_); simp only [nY]; go_simp)
          refine hK' _ _ ⟨.inr trivial, fun _ => ?_⟩
          clear hK' K'
          (try simp only [Act.put, nY, nX])
          (refine anyT_sp 13 rfl (fun K' hK' => ?_); simp only [nY]; go_simp)
          refine hK' _ _ ⟨.inl (by kernel_rfl), fun _ => anyT_done (by kernel_rfl) ?_ _⟩
          clear hK' K'
          go_wp2_with fail
          go_meet
          exact ⟨A8, c8, rfl, rfl, HB8.out⟩
         ·unfold Oper.wp
          go_simp
          refine (exA_c _).mono ?_
          rintro e X ⟨rfl, hb⟩
          replace HBX := hI (HBX.out.trans (hb.mono HBX.out.size))
          try replace HOW := hI (own_heap HOW.out fun j e => hb.block j (HOW.out.lt j e).2)
          try replace HW4 := hI (HW4.out.below hb rr)
          clear hb
          refine hK' _ _ ⟨.inr trivial, fun _ => ?_⟩
          clear hK' K'
          (try simp only [Act.put, nY, nX])
          refine anyT_two (i := 1) (j := 3) (by kernel_rfl) rfl rfl (fun K' hK' => ?_) (fun K' hK' => ?_)
          all_goals rw [if_pos (by rfl)]
          ·unfold Oper.wp
           go_simp
           have hb : Below X.heap.size X (X.alloc (.cells (madeCells #[Value.int .u32 0, .int .u32 0] 8) 24)) := bel
           have HOW := hI (own_lo (own_mk04 X) HBX.out.size)
           try replace HW4 := hI (HW4.out.below hb rr)
           replace HBX := hI (HBX.out.trans (hb.mono HBX.out.size))
           refine hK' _ _ ⟨.inr trivial, fun _ => ?_⟩
           clear hK' K' hb
           obtain ⟨bm, hbm⟩ : ∃ bm, bm = X.heap.size := ⟨_, rfl⟩
           rw [← hbm] at HOW ⊢
           clear hbm
           generalize X.alloc (.cells (madeCells #[Value.int .u32 0, .int .u32 0] 8) 24) = X at *
           (try simp only [Act.put, nY, nX])
           refine anyT_sp 3 rfl (fun K' hK' => ?_)
           rw [if_pos (by rfl)]
           unfold Oper.wp
           go_simp
           refine (exA_c _).mono ?_
           rintro e X ⟨rfl, hb⟩
           replace HBX := hI (HBX.out.trans (hb.mono HBX.out.size))
           try replace HOW := hI (own_heap HOW.out fun j e => hb.block j (HOW.out.lt j e).2)
           try replace HW4 := hI (HW4.out.below hb rr)
           clear hb
           refine hK' _ _ ⟨.inr trivial, fun _ => ?_⟩
           clear hK' K'
           (try simp only [Act.put, nY, nX])
           refine anyT_sp 4 rfl (fun K' hK' => ?_)
           rw [if_pos (by rfl)]
           unfold Oper.wp
           go_simp
           refine (exA_c _).mono ?_
           rintro e X ⟨rfl, hb⟩
           replace HBX := hI (HBX.out.trans (hb.mono HBX.out.size))
           try replace HOW := hI (own_heap HOW.out fun j e => hb.block j (HOW.out.lt j e).2)
           try replace HW4 := hI (HW4.out.below hb rr)
           clear hb
           refine hK' _ _ ⟨.inr trivial, fun _ => ?_⟩
           clear hK' K'
           (try simp only [Act.put, nY, nX])
           refine anyT_sp 5 rfl (fun K' hK' => ?_)
           rw [if_pos (by rfl)]
           unfold Oper.wp
           go_simp
           refine (exA_c _).mono ?_
           rintro e X ⟨rfl, hb⟩
           replace HBX := hI (HBX.out.trans (hb.mono HBX.out.size))
           try replace HOW := hI (own_heap HOW.out fun j e => hb.block j (HOW.out.lt j e).2)
           try replace HW4 := hI (HW4.out.below hb rr)
           clear hb
           refine hK' _ _ ⟨.inr trivial, fun _ => ?_⟩
           clear hK' K'
           (try simp only [Act.put, nY, nX])
           refine anyT_sp 6 rfl (fun K' hK' => ?_)
           rw [if_pos (by rfl)]
           unfold Oper.wp
           go_simp
           have HW4 := hI (built_word X [sA, sA, sA, sA] 24 (by simp))
           have hb : Below X.heap.size X (X.alloc (.cells (wcells [sA, sA, sA, sA]).toArray 24)) := bel
           try replace HOW := hI (own_heap HOW.out fun j e => hb.block j (HOW.out.lt j e).2)
           replace HBX := hI (HBX.out.trans (hb.mono HBX.out.size))
           refine hK' _ _ ⟨.inr trivial, fun _ => ?_⟩
           clear hK' K' hb
           obtain ⟨bw, hbw⟩ : ∃ bw, bw = X.heap.size := ⟨_, rfl⟩
           rw [← hbw] at HW4 ⊢
           clear hbw
           change anyT _ _ _ _ _ _ _ _ (X.alloc (.cells (wcells [sA, sA, sA, sA]).toArray 24))
           generalize X.alloc (.cells (wcells [sA, sA, sA, sA]).toArray 24) = X at *
           (try simp only [Act.put, nY, nX])
           refine anyT_sp 7 rfl (fun K' hK' => ?_)
           rw [if_pos (by rfl)]
           refine upon_append_snd X (.tmp 111) (.tmp 116) rfl w10.heap.size _ 0 [] (by rfl) HOW.out _ 4 4 [sA, sA, sA, sA] (by rfl) HW4.out (by omega) HBX.out.size ?_
           intro v7 X7 hown7 hg7
           obtain ⟨A7, c7, rfl⟩ := own_form hown7
           have HW7 : Hid (IsWord X7 A7 4 c7 [sA, sA, sA, sA]) := Cells.of_own hown7 (by decide)
           have HB7 : Hid (Below w10.heap.size w10 X7) := HBX.out.grown hg7 HBX.out.size (fun q hq => (HOW.out.lt q hq).1)
           clear hown7 hg7 HOW HW4 HBX
           refine hK' _ _ ⟨.inr trivial, fun _ => ?_⟩
           clear hK' K'
           (try simp only [Act.put, nY, nX])
           refine anyT_sp 8 rfl (fun K' hK' => ?_)
           rw [if_pos (by rfl)]
           unfold Oper.wp
           go_simp
           refine (HFIN.out X7 A7 c7 HB7.out HW7.out).mono ?_
           rintro e X8 ⟨A8, n8, c8, rfl, hw8, hb8, _⟩
           obtain rfl : n8 = 0 := by have := hw8.len; simpa using this.symm
           have HB8 := hI (HB7.out.trans (hb8.mono HB7.out.size))
           clear hw8 hb8
           refine hK' _ _ ⟨.inr trivial, fun _ => ?_⟩
           clear hK' K'
           (try simp only [Act.put, nY, nX])
           (refine anyT_sp 9 rfl (fun K' hK' => ?_); simp only [nY]; go_simp)
           refine hK' _ _ ⟨.inr trivial, fun _ => ?_⟩
           clear hK' K'
           (try simp only [Act.put, nY, nX])
           (refine' anyT_takeF (i := 10) (v := _) rfl (by kernel_rfl) (by kernel_rfl) (by kernel_rfl) (fun _ _ _ h => h) (Or.inl ⟨by rfl, fun w' hSw => by go_simp; (try with_reducible rfl)⟩) ?_; (try simp only [Act.put, nY, nX])); (refine' anyT_takeF (i := 11) (v := _) rfl (by kernel_rfl) (by kernel_rfl) (by kernel_rfl) (fun _ _ _ h => h) (Or.inl ⟨by rfl, fun w' hSw => by go_simp; (try with_reducible rfl)⟩) ?_; (try simp only [Act.put, nY, nX]))
           (refine anyT_sp 12 rfl (fun K' hK' => ?_); simp only [nY]; go_simp)
           refine hK' _ _ ⟨.inr trivial, fun _ => ?_⟩
           clear hK' K'
           (try simp only [Act.put, nY, nX])
           (refine anyT_sp 13 rfl (fun K' hK' => ?_); simp only [nY]; go_simp)
           refine hK' _ _ ⟨.inl (by kernel_rfl), fun _ => anyT_done (by kernel_rfl) ?_ _⟩
           clear hK' K'
           go_wp2_with fail
           go_meet
           exact ⟨A8, c8, rfl, rfl, HB8.out⟩
          ·unfold Oper.wp
           go_simp
           refine (exA_c _).mono ?_
           rintro e X ⟨rfl, hb⟩
           replace HBX := hI (HBX.out.trans (hb.mono HBX.out.size))
           try replace HOW := hI (own_heap HOW.out fun j e => hb.block j (HOW.out.lt j e).2)
           try replace HW4 := hI (HW4.out.below hb rr)
           clear hb
           refine hK' _ _ ⟨.inr trivial, fun _ => ?_⟩
           clear hK' K'
           (try simp only [Act.put, nY, nX])
           refine anyT_two (i := 1) (j := 4) (by kernel_rfl) rfl rfl (fun K' hK' => ?_) (fun K' hK' => ?_)
           all_goals rw [if_pos (by rfl)]
           ·unfold Oper.wp
            go_simp
            have hb : Below X.heap.size X (X.alloc (.cells (madeCells #[Value.int .u32 0, .int .u32 0] 8) 24)) := bel
            have HOW := hI (own_lo (own_mk04 X) HBX.out.size)
            try replace HW4 := hI (HW4.out.below hb rr)
            replace HBX := hI (HBX.out.trans (hb.mono HBX.out.size))
            refine hK' _ _ ⟨.inr trivial, fun _ => ?_⟩
            clear hK' K' hb
            obtain ⟨bm, hbm⟩ : ∃ bm, bm = X.heap.size := ⟨_, rfl⟩
            rw [← hbm] at HOW ⊢
            clear hbm
            generalize X.alloc (.cells (madeCells #[Value.int .u32 0, .int .u32 0] 8) 24) = X at *
            (try simp only [Act.put, nY, nX])
            refine anyT_sp 4 rfl (fun K' hK' => ?_)
            rw [if_pos (by rfl)]
            unfold Oper.wp
            go_simp
            refine (exA_c _).mono ?_
            rintro e X ⟨rfl, hb⟩
            replace HBX := hI (HBX.out.trans (hb.mono HBX.out.size))
            try replace HOW := hI (own_heap HOW.out fun j e => hb.block j (HOW.out.lt j e).2)
            try replace HW4 := hI (HW4.out.below hb rr)
            clear hb
            refine hK' _ _ ⟨.inr trivial, fun _ => ?_⟩
            clear hK' K'
            (try simp only [Act.put, nY, nX])
            refine anyT_sp 5 rfl (fun K' hK' => ?_)
            rw [if_pos (by rfl)]
            unfold Oper.wp
            go_simp
            refine (exA_c _).mono ?_
            rintro e X ⟨rfl, hb⟩
            replace HBX := hI (HBX.out.trans (hb.mono HBX.out.size))
            try replace HOW := hI (own_heap HOW.out fun j e => hb.block j (HOW.out.lt j e).2)
            try replace HW4 := hI (HW4.out.below hb rr)
            clear hb
            refine hK' _ _ ⟨.inr trivial, fun _ => ?_⟩
            clear hK' K'
            (try simp only [Act.put, nY, nX])
            refine anyT_sp 6 rfl (fun K' hK' => ?_)
            rw [if_pos (by rfl)]
            unfold Oper.wp
            go_simp
            have HW4 := hI (built_word X [sA, sA, sA, sA] 24 (by simp))
            have hb : Below X.heap.size X (X.alloc (.cells (wcells [sA, sA, sA, sA]).toArray 24)) := bel
            try replace HOW := hI (own_heap HOW.out fun j e => hb.block j (HOW.out.lt j e).2)
            replace HBX := hI (HBX.out.trans (hb.mono HBX.out.size))
            refine hK' _ _ ⟨.inr trivial, fun _ => ?_⟩
            clear hK' K' hb
            obtain ⟨bw, hbw⟩ : ∃ bw, bw = X.heap.size := ⟨_, rfl⟩
            rw [← hbw] at HW4 ⊢
            clear hbw
            change anyT _ _ _ _ _ _ _ _ (X.alloc (.cells (wcells [sA, sA, sA, sA]).toArray 24))
            generalize X.alloc (.cells (wcells [sA, sA, sA, sA]).toArray 24) = X at *
            (try simp only [Act.put, nY, nX])
            refine anyT_sp 7 rfl (fun K' hK' => ?_)
            rw [if_pos (by rfl)]
            refine upon_append_snd X (.tmp 111) (.tmp 116) rfl w10.heap.size _ 0 [] (by rfl) HOW.out _ 4 4 [sA, sA, sA, sA] (by rfl) HW4.out (by omega) HBX.out.size ?_
            intro v7 X7 hown7 hg7
            obtain ⟨A7, c7, rfl⟩ := own_form hown7
            have HW7 : Hid (IsWord X7 A7 4 c7 [sA, sA, sA, sA]) := Cells.of_own hown7 (by decide)
            have HB7 : Hid (Below w10.heap.size w10 X7) := HBX.out.grown hg7 HBX.out.size (fun q hq => (HOW.out.lt q hq).1)
            clear hown7 hg7 HOW HW4 HBX
            refine hK' _ _ ⟨.inr trivial, fun _ => ?_⟩
            clear hK' K'
            (try simp only [Act.put, nY, nX])
            refine anyT_sp 8 rfl (fun K' hK' => ?_)
            rw [if_pos (by rfl)]
            unfold Oper.wp
            go_simp
            refine (HFIN.out X7 A7 c7 HB7.out HW7.out).mono ?_
            rintro e X8 ⟨A8, n8, c8, rfl, hw8, hb8, _⟩
            obtain rfl : n8 = 0 := by have := hw8.len; simpa using this.symm
            have HB8 := hI (HB7.out.trans (hb8.mono HB7.out.size))
            clear hw8 hb8
            refine hK' _ _ ⟨.inr trivial, fun _ => ?_⟩
            clear hK' K'
            (try simp only [Act.put, nY, nX])
            (refine anyT_sp 9 rfl (fun K' hK' => ?_); simp only [nY]; go_simp)
            refine hK' _ _ ⟨.inr trivial, fun _ => ?_⟩
            clear hK' K'
            (try simp only [Act.put, nY, nX])
            (refine' anyT_takeF (i := 10) (v := _) rfl (by kernel_rfl) (by kernel_rfl) (by kernel_rfl) (fun _ _ _ h => h) (Or.inl ⟨by rfl, fun w' hSw => by go_simp; (try with_reducible rfl)⟩) ?_; (try simp only [Act.put, nY, nX])); (refine' anyT_takeF (i := 11) (v := _) rfl (by kernel_rfl) (by kernel_rfl) (by kernel_rfl) (fun _ _ _ h => h) (Or.inl ⟨by rfl, fun w' hSw => by go_simp; (try with_reducible rfl)⟩) ?_; (try simp only [Act.put, nY, nX]))
            (refine anyT_sp 12 rfl (fun K' hK' => ?_); simp only [nY]; go_simp)
            refine hK' _ _ ⟨.inr trivial, fun _ => ?_⟩
            clear hK' K'
            (try simp only [Act.put, nY, nX])
            (refine anyT_sp 13 rfl (fun K' hK' => ?_); simp only [nY]; go_simp)
            refine hK' _ _ ⟨.inl (by kernel_rfl), fun _ => anyT_done (by kernel_rfl) ?_ _⟩
            clear hK' K'
            go_wp2_with fail
            go_meet
            exact ⟨A8, c8, rfl, rfl, HB8.out⟩
           ·unfold Oper.wp
            go_simp
            refine (exA_c _).mono ?_
            rintro e X ⟨rfl, hb⟩
            replace HBX := hI (HBX.out.trans (hb.mono HBX.out.size))
            try replace HOW := hI (own_heap HOW.out fun j e => hb.block j (HOW.out.lt j e).2)
            try replace HW4 := hI (HW4.out.below hb rr)
            clear hb
            refine hK' _ _ ⟨.inr trivial, fun _ => ?_⟩
            clear hK' K'
            (try simp only [Act.put, nY, nX])
            refine anyT_two (i := 1) (j := 5) (by kernel_rfl) rfl rfl (fun K' hK' => ?_) (fun K' hK' => ?_)
            all_goals rw [if_pos (by rfl)]
            ·unfold Oper.wp
             go_simp
             have hb : Below X.heap.size X (X.alloc (.cells (madeCells #[Value.int .u32 0, .int .u32 0] 8) 24)) := bel
             have HOW := hI (own_lo (own_mk04 X) HBX.out.size)
             try replace HW4 := hI (HW4.out.below hb rr)
             replace HBX := hI (HBX.out.trans (hb.mono HBX.out.size))
             refine hK' _ _ ⟨.inr trivial, fun _ => ?_⟩
             clear hK' K' hb
             obtain ⟨bm, hbm⟩ : ∃ bm, bm = X.heap.size := ⟨_, rfl⟩
             rw [← hbm] at HOW ⊢
             clear hbm
             generalize X.alloc (.cells (madeCells #[Value.int .u32 0, .int .u32 0] 8) 24) = X at *
             (try simp only [Act.put, nY, nX])
             refine anyT_sp 5 rfl (fun K' hK' => ?_)
             rw [if_pos (by rfl)]
             unfold Oper.wp
             go_simp
             refine (exA_c _).mono ?_
             rintro e X ⟨rfl, hb⟩
             replace HBX := hI (HBX.out.trans (hb.mono HBX.out.size))
             try replace HOW := hI (own_heap HOW.out fun j e => hb.block j (HOW.out.lt j e).2)
             try replace HW4 := hI (HW4.out.below hb rr)
             clear hb
             refine hK' _ _ ⟨.inr trivial, fun _ => ?_⟩
             clear hK' K'
             (try simp only [Act.put, nY, nX])
             refine anyT_sp 6 rfl (fun K' hK' => ?_)
             rw [if_pos (by rfl)]
             unfold Oper.wp
             go_simp
             have HW4 := hI (built_word X [sA, sA, sA, sA] 24 (by simp))
             have hb : Below X.heap.size X (X.alloc (.cells (wcells [sA, sA, sA, sA]).toArray 24)) := bel
             try replace HOW := hI (own_heap HOW.out fun j e => hb.block j (HOW.out.lt j e).2)
             replace HBX := hI (HBX.out.trans (hb.mono HBX.out.size))
             refine hK' _ _ ⟨.inr trivial, fun _ => ?_⟩
             clear hK' K' hb
             obtain ⟨bw, hbw⟩ : ∃ bw, bw = X.heap.size := ⟨_, rfl⟩
             rw [← hbw] at HW4 ⊢
             clear hbw
             change anyT _ _ _ _ _ _ _ _ (X.alloc (.cells (wcells [sA, sA, sA, sA]).toArray 24))
             generalize X.alloc (.cells (wcells [sA, sA, sA, sA]).toArray 24) = X at *
             (try simp only [Act.put, nY, nX])
             refine anyT_sp 7 rfl (fun K' hK' => ?_)
             rw [if_pos (by rfl)]
             refine upon_append_snd X (.tmp 111) (.tmp 116) rfl w10.heap.size _ 0 [] (by rfl) HOW.out _ 4 4 [sA, sA, sA, sA] (by rfl) HW4.out (by omega) HBX.out.size ?_
             intro v7 X7 hown7 hg7
             obtain ⟨A7, c7, rfl⟩ := own_form hown7
             have HW7 : Hid (IsWord X7 A7 4 c7 [sA, sA, sA, sA]) := Cells.of_own hown7 (by decide)
             have HB7 : Hid (Below w10.heap.size w10 X7) := HBX.out.grown hg7 HBX.out.size (fun q hq => (HOW.out.lt q hq).1)
             clear hown7 hg7 HOW HW4 HBX
             refine hK' _ _ ⟨.inr trivial, fun _ => ?_⟩
             clear hK' K'
             (try simp only [Act.put, nY, nX])
             refine anyT_sp 8 rfl (fun K' hK' => ?_)
             rw [if_pos (by rfl)]
             unfold Oper.wp
             go_simp
             refine (HFIN.out X7 A7 c7 HB7.out HW7.out).mono ?_
             rintro e X8 ⟨A8, n8, c8, rfl, hw8, hb8, _⟩
             obtain rfl : n8 = 0 := by have := hw8.len; simpa using this.symm
             have HB8 := hI (HB7.out.trans (hb8.mono HB7.out.size))
             clear hw8 hb8
             refine hK' _ _ ⟨.inr trivial, fun _ => ?_⟩
             clear hK' K'
             (try simp only [Act.put, nY, nX])
             (refine anyT_sp 9 rfl (fun K' hK' => ?_); simp only [nY]; go_simp)
             refine hK' _ _ ⟨.inr trivial, fun _ => ?_⟩
             clear hK' K'
             (try simp only [Act.put, nY, nX])
             (refine' anyT_takeF (i := 10) (v := _) rfl (by kernel_rfl) (by kernel_rfl) (by kernel_rfl) (fun _ _ _ h => h) (Or.inl ⟨by rfl, fun w' hSw => by go_simp; (try with_reducible rfl)⟩) ?_; (try simp only [Act.put, nY, nX])); (refine' anyT_takeF (i := 11) (v := _) rfl (by kernel_rfl) (by kernel_rfl) (by kernel_rfl) (fun _ _ _ h => h) (Or.inl ⟨by rfl, fun w' hSw => by go_simp; (try with_reducible rfl)⟩) ?_; (try simp only [Act.put, nY, nX]))
             (refine anyT_sp 12 rfl (fun K' hK' => ?_); simp only [nY]; go_simp)
             refine hK' _ _ ⟨.inr trivial, fun _ => ?_⟩
             clear hK' K'
             (try simp only [Act.put, nY, nX])
             (refine anyT_sp 13 rfl (fun K' hK' => ?_); simp only [nY]; go_simp)
             refine hK' _ _ ⟨.inl (by kernel_rfl), fun _ => anyT_done (by kernel_rfl) ?_ _⟩
             clear hK' K'
             go_wp2_with fail
             go_meet
             exact ⟨A8, c8, rfl, rfl, HB8.out⟩
            ·unfold Oper.wp
             go_simp
             refine (exA_c _).mono ?_
             rintro e X ⟨rfl, hb⟩
             replace HBX := hI (HBX.out.trans (hb.mono HBX.out.size))
             try replace HOW := hI (own_heap HOW.out fun j e => hb.block j (HOW.out.lt j e).2)
             try replace HW4 := hI (HW4.out.below hb rr)
             clear hb
             refine hK' _ _ ⟨.inr trivial, fun _ => ?_⟩
             clear hK' K'
             (try simp only [Act.put, nY, nX])
             refine anyT_two (i := 1) (j := 6) (by kernel_rfl) rfl rfl (fun K' hK' => ?_) (fun K' hK' => ?_)
             all_goals rw [if_pos (by rfl)]
             ·unfold Oper.wp
              go_simp
              have hb : Below X.heap.size X (X.alloc (.cells (madeCells #[Value.int .u32 0, .int .u32 0] 8) 24)) := bel
              have HOW := hI (own_lo (own_mk04 X) HBX.out.size)
              try replace HW4 := hI (HW4.out.below hb rr)
              replace HBX := hI (HBX.out.trans (hb.mono HBX.out.size))
              refine hK' _ _ ⟨.inr trivial, fun _ => ?_⟩
              clear hK' K' hb
              obtain ⟨bm, hbm⟩ : ∃ bm, bm = X.heap.size := ⟨_, rfl⟩
              rw [← hbm] at HOW ⊢
              clear hbm
              generalize X.alloc (.cells (madeCells #[Value.int .u32 0, .int .u32 0] 8) 24) = X at *
              (try simp only [Act.put, nY, nX])
              refine anyT_sp 6 rfl (fun K' hK' => ?_)
              rw [if_pos (by rfl)]
              unfold Oper.wp
              go_simp
              have HW4 := hI (built_word X [sA, sA, sA, sA] 24 (by simp))
              have hb : Below X.heap.size X (X.alloc (.cells (wcells [sA, sA, sA, sA]).toArray 24)) := bel
              try replace HOW := hI (own_heap HOW.out fun j e => hb.block j (HOW.out.lt j e).2)
              replace HBX := hI (HBX.out.trans (hb.mono HBX.out.size))
              refine hK' _ _ ⟨.inr trivial, fun _ => ?_⟩
              clear hK' K' hb
              obtain ⟨bw, hbw⟩ : ∃ bw, bw = X.heap.size := ⟨_, rfl⟩
              rw [← hbw] at HW4 ⊢
              clear hbw
              change anyT _ _ _ _ _ _ _ _ (X.alloc (.cells (wcells [sA, sA, sA, sA]).toArray 24))
              generalize X.alloc (.cells (wcells [sA, sA, sA, sA]).toArray 24) = X at *
              (try simp only [Act.put, nY, nX])
              refine anyT_sp 7 rfl (fun K' hK' => ?_)
              rw [if_pos (by rfl)]
              refine upon_append_snd X (.tmp 111) (.tmp 116) rfl w10.heap.size _ 0 [] (by rfl) HOW.out _ 4 4 [sA, sA, sA, sA] (by rfl) HW4.out (by omega) HBX.out.size ?_
              intro v7 X7 hown7 hg7
              obtain ⟨A7, c7, rfl⟩ := own_form hown7
              have HW7 : Hid (IsWord X7 A7 4 c7 [sA, sA, sA, sA]) := Cells.of_own hown7 (by decide)
              have HB7 : Hid (Below w10.heap.size w10 X7) := HBX.out.grown hg7 HBX.out.size (fun q hq => (HOW.out.lt q hq).1)
              clear hown7 hg7 HOW HW4 HBX
              refine hK' _ _ ⟨.inr trivial, fun _ => ?_⟩
              clear hK' K'
              (try simp only [Act.put, nY, nX])
              refine anyT_sp 8 rfl (fun K' hK' => ?_)
              rw [if_pos (by rfl)]
              unfold Oper.wp
              go_simp
              refine (HFIN.out X7 A7 c7 HB7.out HW7.out).mono ?_
              rintro e X8 ⟨A8, n8, c8, rfl, hw8, hb8, _⟩
              obtain rfl : n8 = 0 := by have := hw8.len; simpa using this.symm
              have HB8 := hI (HB7.out.trans (hb8.mono HB7.out.size))
              clear hw8 hb8
              refine hK' _ _ ⟨.inr trivial, fun _ => ?_⟩
              clear hK' K'
              (try simp only [Act.put, nY, nX])
              (refine anyT_sp 9 rfl (fun K' hK' => ?_); simp only [nY]; go_simp)
              refine hK' _ _ ⟨.inr trivial, fun _ => ?_⟩
              clear hK' K'
              (try simp only [Act.put, nY, nX])
              (refine' anyT_takeF (i := 10) (v := _) rfl (by kernel_rfl) (by kernel_rfl) (by kernel_rfl) (fun _ _ _ h => h) (Or.inl ⟨by rfl, fun w' hSw => by go_simp; (try with_reducible rfl)⟩) ?_; (try simp only [Act.put, nY, nX])); (refine' anyT_takeF (i := 11) (v := _) rfl (by kernel_rfl) (by kernel_rfl) (by kernel_rfl) (fun _ _ _ h => h) (Or.inl ⟨by rfl, fun w' hSw => by go_simp; (try with_reducible rfl)⟩) ?_; (try simp only [Act.put, nY, nX]))
              (refine anyT_sp 12 rfl (fun K' hK' => ?_); simp only [nY]; go_simp)
              refine hK' _ _ ⟨.inr trivial, fun _ => ?_⟩
              clear hK' K'
              (try simp only [Act.put, nY, nX])
              (refine anyT_sp 13 rfl (fun K' hK' => ?_); simp only [nY]; go_simp)
              refine hK' _ _ ⟨.inl (by kernel_rfl), fun _ => anyT_done (by kernel_rfl) ?_ _⟩
              clear hK' K'
              go_wp2_with fail
              go_meet
              exact ⟨A8, c8, rfl, rfl, HB8.out⟩
             ·unfold Oper.wp
              go_simp
              have HW4 := hI (built_word X [sA, sA, sA, sA] 24 (by simp))
              have hb : Below X.heap.size X (X.alloc (.cells (wcells [sA, sA, sA, sA]).toArray 24)) := bel
              try replace HOW := hI (own_heap HOW.out fun j e => hb.block j (HOW.out.lt j e).2)
              replace HBX := hI (HBX.out.trans (hb.mono HBX.out.size))
              refine hK' _ _ ⟨.inr trivial, fun _ => ?_⟩
              clear hK' K' hb
              obtain ⟨bw, hbw⟩ : ∃ bw, bw = X.heap.size := ⟨_, rfl⟩
              rw [← hbw] at HW4 ⊢
              clear hbw
              change anyT _ _ _ _ _ _ _ _ (X.alloc (.cells (wcells [sA, sA, sA, sA]).toArray 24))
              generalize X.alloc (.cells (wcells [sA, sA, sA, sA]).toArray 24) = X at *
              (try simp only [Act.put, nY, nX])
              refine anyT_sp 1 rfl (fun K' hK' => ?_)
              rw [if_pos (by rfl)]
              unfold Oper.wp
              go_simp
              have hb : Below X.heap.size X (X.alloc (.cells (madeCells #[Value.int .u32 0, .int .u32 0] 8) 24)) := bel
              have HOW := hI (own_lo (own_mk04 X) HBX.out.size)
              try replace HW4 := hI (HW4.out.below hb rr)
              replace HBX := hI (HBX.out.trans (hb.mono HBX.out.size))
              refine hK' _ _ ⟨.inr trivial, fun _ => ?_⟩
              clear hK' K' hb
              obtain ⟨bm, hbm⟩ : ∃ bm, bm = X.heap.size := ⟨_, rfl⟩
              rw [← hbm] at HOW ⊢
              clear hbm
              generalize X.alloc (.cells (madeCells #[Value.int .u32 0, .int .u32 0] 8) 24) = X at *
              (try simp only [Act.put, nY, nX])
              refine anyT_sp 7 rfl (fun K' hK' => ?_)
              rw [if_pos (by rfl)]
              refine upon_append_snd X (.tmp 111) (.tmp 116) rfl w10.heap.size _ 0 [] (by rfl) HOW.out _ 4 4 [sA, sA, sA, sA] (by rfl) HW4.out (by omega) HBX.out.size ?_
              intro v7 X7 hown7 hg7
              obtain ⟨A7, c7, rfl⟩ := own_form hown7
              have HW7 : Hid (IsWord X7 A7 4 c7 [sA, sA, sA, sA]) := Cells.of_own hown7 (by decide)
              have HB7 : Hid (Below w10.heap.size w10 X7) := HBX.out.grown hg7 HBX.out.size (fun q hq => (HOW.out.lt q hq).1)
              clear hown7 hg7 HOW HW4 HBX
              refine hK' _ _ ⟨.inr trivial, fun _ => ?_⟩
              clear hK' K'
              (try simp only [Act.put, nY, nX])
              refine anyT_sp 8 rfl (fun K' hK' => ?_)
              rw [if_pos (by rfl)]
              unfold Oper.wp
              go_simp
              refine (HFIN.out X7 A7 c7 HB7.out HW7.out).mono ?_
              rintro e X8 ⟨A8, n8, c8, rfl, hw8, hb8, _⟩
              obtain rfl : n8 = 0 := by have := hw8.len; simpa using this.symm
              have HB8 := hI (HB7.out.trans (hb8.mono HB7.out.size))
              clear hw8 hb8
              refine hK' _ _ ⟨.inr trivial, fun _ => ?_⟩
              clear hK' K'
              (try simp only [Act.put, nY, nX])
              (refine anyT_sp 9 rfl (fun K' hK' => ?_); simp only [nY]; go_simp)
              refine hK' _ _ ⟨.inr trivial, fun _ => ?_⟩
              clear hK' K'
              (try simp only [Act.put, nY, nX])
              (refine' anyT_takeF (i := 10) (v := _) rfl (by kernel_rfl) (by kernel_rfl) (by kernel_rfl) (fun _ _ _ h => h) (Or.inl ⟨by rfl, fun w' hSw => by go_simp; (try with_reducible rfl)⟩) ?_; (try simp only [Act.put, nY, nX])); (refine' anyT_takeF (i := 11) (v := _) rfl (by kernel_rfl) (by kernel_rfl) (by kernel_rfl) (fun _ _ _ h => h) (Or.inl ⟨by rfl, fun w' hSw => by go_simp; (try with_reducible rfl)⟩) ?_; (try simp only [Act.put, nY, nX]))
              (refine anyT_sp 12 rfl (fun K' hK' => ?_); simp only [nY]; go_simp)
              refine hK' _ _ ⟨.inr trivial, fun _ => ?_⟩
              clear hK' K'
              (try simp only [Act.put, nY, nX])
              (refine anyT_sp 13 rfl (fun K' hK' => ?_); simp only [nY]; go_simp)
              refine hK' _ _ ⟨.inl (by kernel_rfl), fun _ => anyT_done (by kernel_rfl) ?_ _⟩
              clear hK' K'
              go_wp2_with fail
              go_meet
              exact ⟨A8, c8, rfl, rfl, HB8.out⟩
        case rest =>
         obtain ⟨A10, c10, rfl, rfl, hb⟩ := hcut
         clear hmk
         replace HB0 := hI (HB0.out.trans (hb.mono HB0.out.size))
         replace HT := hI (HT.out.below hb rr)
         try replace HG := hI ((hb.block _ (lt_of_block HG.out)).trans HG.out)
         try replace HGA := hI (HGA.out.below hb rr)
         try replace HAPA := hI (HAPA.out.below hb rr)
         try replace HPAP := hI (HPAP.out.below hb rr)
         try replace HPA := hI (HPA.out.below hb rr)
         try replace HBAD := hI (HBAD.out.below hb rr)
         try replace HLONG := hI (HLONG.out.below hb rr)
         try replace HLAWS := hI (HLAWS.out.below hb rr)
         try replace HOVER := hI (HOVER.out.below hb rr)
         try replace HVF := hI (HVF.out.below hb rr)
         try replace HLA := hI (HLA.out.below hb rr)
         try replace HLB := hI (HLB.out.below hb rr)
         try replace HLC := hI (HLC.out.below hb rr)
         try replace HX := hI (HX.out.below hb rr)
         try replace HY := hI (HY.out.below hb rr)
         try replace HZ := hI (HZ.out.below hb rr)
         try replace HU := hI (HU.out.below hb rr)
         try replace HV := hI (HV.out.below hb rr)
         try replace HP := hI (HP.out.below hb rr)
         try replace HQ := hI (HQ.out.below hb rr)
         try replace HI1 := hI (HI1.out.below hb rr)
         try replace HI2 := hI (HI2.out.below hb rr)
         try clear hb
         go_wp2_with (refine law1A rfl (.tmp 122) rfl zlR rfl (zero_at _) ?hd1)
         case hd1 =>
          intro W14 hl1 hb hz8 _
          replace HB0 := hI (HB0.out.trans (hb.mono HB0.out.size))
          replace HT := hI (HT.out.below hb rr)
          try replace HG := hI ((hb.block _ (lt_of_block HG.out)).trans HG.out)
          try replace HGA := hI (HGA.out.below hb rr)
          try replace HAPA := hI (HAPA.out.below hb rr)
          try replace HPAP := hI (HPAP.out.below hb rr)
          try replace HPA := hI (HPA.out.below hb rr)
          try replace HBAD := hI (HBAD.out.below hb rr)
          try replace HLONG := hI (HLONG.out.below hb rr)
          try replace HLAWS := hI (HLAWS.out.below hb rr)
          try replace HOVER := hI (HOVER.out.below hb rr)
          try replace HVF := hI (HVF.out.below hb rr)
          try replace HLA := hI (HLA.out.below hb rr)
          try replace HLB := hI (HLB.out.below hb rr)
          try replace HLC := hI (HLC.out.below hb rr)
          try replace HX := hI (HX.out.below hb rr)
          try replace HY := hI (HY.out.below hb rr)
          try replace HZ := hI (HZ.out.below hb rr)
          try replace HU := hI (HU.out.below hb rr)
          try replace HV := hI (HV.out.below hb rr)
          try replace HP := hI (HP.out.below hb rr)
          try replace HQ := hI (HQ.out.below hb rr)
          try replace HI1 := hI (HI1.out.below hb rr)
          try replace HI2 := hI (HI2.out.below hb rr)
          try clear hb
          have HL1 := hI hl1
          clear hl1 hz8
          go_wp2_with fail
          refine (derive_c _ 1 1 [zlR] _ 1 1 badW W14 HL1.out HBAD.out HT.out).mono ?_
          rw [show deriveM (lawsD [zlR]) badW = (17, []) from kn_g]
          rintro e w15 ⟨A12, n12, c12, rfl, _, hb, _⟩
          clear HL1
          replace HB0 := hI (HB0.out.trans (hb.mono HB0.out.size))
          replace HT := hI (HT.out.below hb rr)
          try replace HG := hI ((hb.block _ (lt_of_block HG.out)).trans HG.out)
          try replace HGA := hI (HGA.out.below hb rr)
          try replace HAPA := hI (HAPA.out.below hb rr)
          try replace HPAP := hI (HPAP.out.below hb rr)
          try replace HPA := hI (HPA.out.below hb rr)
          try replace HBAD := hI (HBAD.out.below hb rr)
          try replace HLONG := hI (HLONG.out.below hb rr)
          try replace HLAWS := hI (HLAWS.out.below hb rr)
          try replace HOVER := hI (HOVER.out.below hb rr)
          try replace HVF := hI (HVF.out.below hb rr)
          try replace HLA := hI (HLA.out.below hb rr)
          try replace HLB := hI (HLB.out.below hb rr)
          try replace HLC := hI (HLC.out.below hb rr)
          try replace HX := hI (HX.out.below hb rr)
          try replace HY := hI (HY.out.below hb rr)
          try replace HZ := hI (HZ.out.below hb rr)
          try replace HU := hI (HU.out.below hb rr)
          try replace HV := hI (HV.out.below hb rr)
          try replace HP := hI (HP.out.below hb rr)
          try replace HQ := hI (HQ.out.below hb rr)
          try replace HI1 := hI (HI1.out.below hb rr)
          try replace HI2 := hI (HI2.out.below hb rr)
          try clear hb
          go_wp2_with (first | (refine load_law rfl (.tmp 1) rfl bg gD ag rfl HG.out ?_) | (refine law1A rfl (.tmp 129) rfl ⟨gD, ag⟩ rfl HGA.out ?he1))
          case he1 =>
           intro W15 hl1 hb hz8 _
           replace HB0 := hI (HB0.out.trans (hb.mono HB0.out.size))
           replace HT := hI (HT.out.below hb rr)
           try replace HG := hI ((hb.block _ (lt_of_block HG.out)).trans HG.out)
           try replace HGA := hI (HGA.out.below hb rr)
           try replace HAPA := hI (HAPA.out.below hb rr)
           try replace HPAP := hI (HPAP.out.below hb rr)
           try replace HPA := hI (HPA.out.below hb rr)
           try replace HBAD := hI (HBAD.out.below hb rr)
           try replace HLONG := hI (HLONG.out.below hb rr)
           try replace HLAWS := hI (HLAWS.out.below hb rr)
           try replace HOVER := hI (HOVER.out.below hb rr)
           try replace HVF := hI (HVF.out.below hb rr)
           try replace HLA := hI (HLA.out.below hb rr)
           try replace HLB := hI (HLB.out.below hb rr)
           try replace HLC := hI (HLC.out.below hb rr)
           try replace HX := hI (HX.out.below hb rr)
           try replace HY := hI (HY.out.below hb rr)
           try replace HZ := hI (HZ.out.below hb rr)
           try replace HU := hI (HU.out.below hb rr)
           try replace HV := hI (HV.out.below hb rr)
           try replace HP := hI (HP.out.below hb rr)
           try replace HQ := hI (HQ.out.below hb rr)
           try replace HI1 := hI (HI1.out.below hb rr)
           try replace HI2 := hI (HI2.out.below hb rr)
           try clear hb
           have HL1 := hI hl1
           clear hl1 hz8
           go_wp2_with fail
           refine (derive_c _ 1 1 [⟨gD, ag⟩] _ 1 1 badW W15 HL1.out HBAD.out HT.out).mono ?_
           rw [show deriveM (lawsD [⟨gD, ag⟩]) badW = (14, []) from kn_h]
           rintro e w16 ⟨A14, n14, c14, rfl, _, hb, _⟩
           clear HL1
           replace HB0 := hI (HB0.out.trans (hb.mono HB0.out.size))
           replace HT := hI (HT.out.below hb rr)
           try replace HG := hI ((hb.block _ (lt_of_block HG.out)).trans HG.out)
           try replace HGA := hI (HGA.out.below hb rr)
           try replace HAPA := hI (HAPA.out.below hb rr)
           try replace HPAP := hI (HPAP.out.below hb rr)
           try replace HPA := hI (HPA.out.below hb rr)
           try replace HBAD := hI (HBAD.out.below hb rr)
           try replace HLONG := hI (HLONG.out.below hb rr)
           try replace HLAWS := hI (HLAWS.out.below hb rr)
           try replace HOVER := hI (HOVER.out.below hb rr)
           try replace HVF := hI (HVF.out.below hb rr)
           try replace HLA := hI (HLA.out.below hb rr)
           try replace HLB := hI (HLB.out.below hb rr)
           try replace HLC := hI (HLC.out.below hb rr)
           try replace HX := hI (HX.out.below hb rr)
           try replace HY := hI (HY.out.below hb rr)
           try replace HZ := hI (HZ.out.below hb rr)
           try replace HU := hI (HU.out.below hb rr)
           try replace HV := hI (HV.out.below hb rr)
           try replace HP := hI (HP.out.below hb rr)
           try replace HQ := hI (HQ.out.below hb rr)
           try replace HI1 := hI (HI1.out.below hb rr)
           try replace HI2 := hI (HI2.out.below hb rr)
           try clear hb
           go_wp2_with fail
           refine plain_region (fun X => X.heap[bg]? = some (.cells (lawCs gD ag) 34 (0, 0))) (by kernel_rfl) HG.out (fun hHeld => ?_)
           (refine' anyT_take (i := 1) (v := lawV gD ag) rfl (by kernel_rfl) (by kernel_rfl) (by kernel_rfl) (by kernel_rfl) (fun _ _ _ h => h) (yields_law (by rfl) (.tmp 1) rfl bg gD ag (by rfl) (fun w' hSw => hSw)) (by assumption) ?_; (try simp only [Act.put, nY, nX]))
           (refine' anyT_tk 3 rfl ?_; (try simp only [Act.put, nY, nX]))
           clear hHeld
           have hb : Below w16.heap.size w16 w16.drew := (Below.refl _ _).drew
           replace HB0 := hI (HB0.out.trans (hb.mono HB0.out.size))
           replace HT := hI (HT.out.below hb rr)
           try replace HG := hI ((hb.block _ (lt_of_block HG.out)).trans HG.out)
           try replace HGA := hI (HGA.out.below hb rr)
           try replace HAPA := hI (HAPA.out.below hb rr)
           try replace HPAP := hI (HPAP.out.below hb rr)
           try replace HPA := hI (HPA.out.below hb rr)
           try replace HBAD := hI (HBAD.out.below hb rr)
           try replace HLONG := hI (HLONG.out.below hb rr)
           try replace HLAWS := hI (HLAWS.out.below hb rr)
           try replace HOVER := hI (HOVER.out.below hb rr)
           try replace HVF := hI (HVF.out.below hb rr)
           try replace HLA := hI (HLA.out.below hb rr)
           try replace HLB := hI (HLB.out.below hb rr)
           try replace HLC := hI (HLC.out.below hb rr)
           try replace HX := hI (HX.out.below hb rr)
           try replace HY := hI (HY.out.below hb rr)
           try replace HZ := hI (HZ.out.below hb rr)
           try replace HU := hI (HU.out.below hb rr)
           try replace HV := hI (HV.out.below hb rr)
           try replace HP := hI (HP.out.below hb rr)
           try replace HQ := hI (HQ.out.below hb rr)
           try replace HI1 := hI (HI1.out.below hb rr)
           try replace HI2 := hI (HI2.out.below hb rr)
           try clear hb
           generalize w16.drew = W16 at *
           refine anyT_sp 0 rfl (fun K' hK' => ?_)
           rw [if_pos (by rfl)]
           unfold Oper.wp
           go_simp
           refine (exF_c _).mono ?_
           rintro e X ⟨af, rfl, hla, hb⟩
           replace HB0 := hI (HB0.out.trans (hb.mono HB0.out.size))
           replace HT := hI (HT.out.below hb rr)
           try replace HG := hI ((hb.block _ (lt_of_block HG.out)).trans HG.out)
           try replace HGA := hI (HGA.out.below hb rr)
           try replace HAPA := hI (HAPA.out.below hb rr)
           try replace HPAP := hI (HPAP.out.below hb rr)
           try replace HPA := hI (HPA.out.below hb rr)
           try replace HBAD := hI (HBAD.out.below hb rr)
           try replace HLONG := hI (HLONG.out.below hb rr)
           try replace HLAWS := hI (HLAWS.out.below hb rr)
           try replace HOVER := hI (HOVER.out.below hb rr)
           try replace HVF := hI (HVF.out.below hb rr)
           try replace HLA := hI (HLA.out.below hb rr)
           try replace HLB := hI (HLB.out.below hb rr)
           try replace HLC := hI (HLC.out.below hb rr)
           try replace HX := hI (HX.out.below hb rr)
           try replace HY := hI (HY.out.below hb rr)
           try replace HZ := hI (HZ.out.below hb rr)
           try replace HU := hI (HU.out.below hb rr)
           try replace HV := hI (HV.out.below hb rr)
           try replace HP := hI (HP.out.below hb rr)
           try replace HQ := hI (HQ.out.below hb rr)
           try replace HI1 := hI (HI1.out.below hb rr)
           try replace HI2 := hI (HI2.out.below hb rr)
           try clear hb
           refine hK' _ _ ⟨.inr HG.out, fun _ => ?_⟩
           clear hK' K'
           (try simp only [Act.put, nY, nX])
           have HLA := hI hla
           clear hla
           refine anyT_sp 2 rfl (fun K' hK' => ?_)
           rw [if_pos (by rfl)]
           refine upon_law2 X (.tmp 136) (.tmp 137) rfl ⟨fD, af⟩ ⟨gD, ag⟩ (by rfl) (by rfl) HLA.out HGA.out ?_
           intro X2 hl2 hb hz2
           replace HB0 := hI (HB0.out.trans (hb.mono HB0.out.size))
           replace HT := hI (HT.out.below hb rr)
           try replace HG := hI ((hb.block _ (lt_of_block HG.out)).trans HG.out)
           try replace HGA := hI (HGA.out.below hb rr)
           try replace HAPA := hI (HAPA.out.below hb rr)
           try replace HPAP := hI (HPAP.out.below hb rr)
           try replace HPA := hI (HPA.out.below hb rr)
           try replace HBAD := hI (HBAD.out.below hb rr)
           try replace HLONG := hI (HLONG.out.below hb rr)
           try replace HLAWS := hI (HLAWS.out.below hb rr)
           try replace HOVER := hI (HOVER.out.below hb rr)
           try replace HVF := hI (HVF.out.below hb rr)
           try replace HLA := hI (HLA.out.below hb rr)
           try replace HLB := hI (HLB.out.below hb rr)
           try replace HLC := hI (HLC.out.below hb rr)
           try replace HX := hI (HX.out.below hb rr)
           try replace HY := hI (HY.out.below hb rr)
           try replace HZ := hI (HZ.out.below hb rr)
           try replace HU := hI (HU.out.below hb rr)
           try replace HV := hI (HV.out.below hb rr)
           try replace HP := hI (HP.out.below hb rr)
           try replace HQ := hI (HQ.out.below hb rr)
           try replace HI1 := hI (HI1.out.below hb rr)
           try replace HI2 := hI (HI2.out.below hb rr)
           try clear hb
           have HL1 := hI hl2
           clear hl2 hz2 HLA
           refine hK' _ _ ⟨.inr HG.out, fun _ => ?_⟩
           clear hK' K'
           (try simp only [Act.put, nY, nX])
           refine anyT_sp 4 rfl (fun K' hK' => ?_)
           rw [if_pos (by rfl)]
           unfold Oper.wp
           go_simp
           refine (derive_c _ 2 2 [⟨fD, af⟩, ⟨gD, ag⟩] _ 32 32 longW X2 HL1.out HLONG.out HT.out).mono ?_
           rw [show deriveM (lawsD [⟨fD, af⟩, ⟨gD, ag⟩]) longW = (11, []) from kn_i]
           rintro e X3 ⟨A16, n16, c16, rfl, _, hb, _⟩
           clear HL1
           replace HB0 := hI (HB0.out.trans (hb.mono HB0.out.size))
           replace HT := hI (HT.out.below hb rr)
           try replace HG := hI ((hb.block _ (lt_of_block HG.out)).trans HG.out)
           try replace HGA := hI (HGA.out.below hb rr)
           try replace HAPA := hI (HAPA.out.below hb rr)
           try replace HPAP := hI (HPAP.out.below hb rr)
           try replace HPA := hI (HPA.out.below hb rr)
           try replace HBAD := hI (HBAD.out.below hb rr)
           try replace HLONG := hI (HLONG.out.below hb rr)
           try replace HLAWS := hI (HLAWS.out.below hb rr)
           try replace HOVER := hI (HOVER.out.below hb rr)
           try replace HVF := hI (HVF.out.below hb rr)
           try replace HLA := hI (HLA.out.below hb rr)
           try replace HLB := hI (HLB.out.below hb rr)
           try replace HLC := hI (HLC.out.below hb rr)
           try replace HX := hI (HX.out.below hb rr)
           try replace HY := hI (HY.out.below hb rr)
           try replace HZ := hI (HZ.out.below hb rr)
           try replace HU := hI (HU.out.below hb rr)
           try replace HV := hI (HV.out.below hb rr)
           try replace HP := hI (HP.out.below hb rr)
           try replace HQ := hI (HQ.out.below hb rr)
           try replace HI1 := hI (HI1.out.below hb rr)
           try replace HI2 := hI (HI2.out.below hb rr)
           try clear hb
           refine hK' _ _ ⟨.inr HG.out, fun _ => ?_⟩
           clear hK' K'
           (try simp only [Act.put, nY, nX])
           (refine anyT_sp 5 rfl (fun K' hK' => ?_); simp only [nY]; go_simp)
           refine hK' _ _ ⟨.inr HG.out, fun _ => ?_⟩
           clear hK' K'
           (try simp only [Act.put, nY, nX])
           have hS3 := HG.out
           (refine' anyT_tk 6 rfl ?_; (try simp only [Act.put, nY, nX])); (refine' anyT_tk 7 rfl ?_; (try simp only [Act.put, nY, nX]))
           (refine anyT_sp 8 rfl (fun K' hK' => ?_); simp only [nY]; go_simp)
           refine hK' _ _ ⟨.inr HG.out, fun _ => ?_⟩
           clear hK' K'
           (try simp only [Act.put, nY, nX])
           (refine anyT_sp 9 rfl (fun K' hK' => ?_); simp only [nY]; go_simp)
           refine hK' _ _ ⟨.inl (by kernel_rfl), fun _ => anyT_done (by kernel_rfl) ?_ _⟩
           clear hK' K' hS3
           have HL31 : Hid (IsWord X3 (some ⟨br + 1 + 1, 2, none⟩) 31 31 (longW.drop 1)) := by
            have h := HLONG.out.drop (k := 1) (by omega)
            rw [if_neg (by omega)] at h
            exact h
           go_wp2_with fail
           refine plain_region (fun X => X.heap[bg]? = some (.cells (lawCs gD ag) 34 (0, 0))) (by kernel_rfl) HG.out (fun hHeld => ?_)
           (refine' anyT_take (i := 0) (v := lawV gD ag) rfl (by kernel_rfl) (by kernel_rfl) (by kernel_rfl) (by kernel_rfl) (fun _ _ _ h => h) (yields_law (by rfl) (.tmp 1) rfl bg gD ag (by rfl) (fun w' hSw => hSw)) (by assumption) ?_; (try simp only [Act.put, nY, nX]))
           (refine' anyT_tk 2 rfl ?_; (try simp only [Act.put, nY, nX])); (refine' anyT_tk 3 rfl ?_; (try simp only [Act.put, nY, nX]))
           clear hHeld
           have hb : Below X3.heap.size X3 X3.drew := (Below.refl _ _).drew
           replace HL31 := hI (HL31.out.below hb rr)
           replace HB0 := hI (HB0.out.trans (hb.mono HB0.out.size))
           replace HT := hI (HT.out.below hb rr)
           try replace HG := hI ((hb.block _ (lt_of_block HG.out)).trans HG.out)
           try replace HGA := hI (HGA.out.below hb rr)
           try replace HAPA := hI (HAPA.out.below hb rr)
           try replace HPAP := hI (HPAP.out.below hb rr)
           try replace HPA := hI (HPA.out.below hb rr)
           try replace HBAD := hI (HBAD.out.below hb rr)
           try replace HLONG := hI (HLONG.out.below hb rr)
           try replace HLAWS := hI (HLAWS.out.below hb rr)
           try replace HOVER := hI (HOVER.out.below hb rr)
           try replace HVF := hI (HVF.out.below hb rr)
           try replace HLA := hI (HLA.out.below hb rr)
           try replace HLB := hI (HLB.out.below hb rr)
           try replace HLC := hI (HLC.out.below hb rr)
           try replace HX := hI (HX.out.below hb rr)
           try replace HY := hI (HY.out.below hb rr)
           try replace HZ := hI (HZ.out.below hb rr)
           try replace HU := hI (HU.out.below hb rr)
           try replace HV := hI (HV.out.below hb rr)
           try replace HP := hI (HP.out.below hb rr)
           try replace HQ := hI (HQ.out.below hb rr)
           try replace HI1 := hI (HI1.out.below hb rr)
           try replace HI2 := hI (HI2.out.below hb rr)
           try clear hb
           generalize X3.drew = X4 at *
           refine anyT_sp 1 rfl (fun K' hK' => ?_)
           rw [if_pos (by rfl)]
           refine upon_law1 X4 (.tmp 144) rfl ⟨gD, ag⟩ (by rfl) HGA.out ?_
           intro X5 hl2 hb hz2
           replace HL31 := hI (HL31.out.below hb rr)
           replace HB0 := hI (HB0.out.trans (hb.mono HB0.out.size))
           replace HT := hI (HT.out.below hb rr)
           try replace HG := hI ((hb.block _ (lt_of_block HG.out)).trans HG.out)
           try replace HGA := hI (HGA.out.below hb rr)
           try replace HAPA := hI (HAPA.out.below hb rr)
           try replace HPAP := hI (HPAP.out.below hb rr)
           try replace HPA := hI (HPA.out.below hb rr)
           try replace HBAD := hI (HBAD.out.below hb rr)
           try replace HLONG := hI (HLONG.out.below hb rr)
           try replace HLAWS := hI (HLAWS.out.below hb rr)
           try replace HOVER := hI (HOVER.out.below hb rr)
           try replace HVF := hI (HVF.out.below hb rr)
           try replace HLA := hI (HLA.out.below hb rr)
           try replace HLB := hI (HLB.out.below hb rr)
           try replace HLC := hI (HLC.out.below hb rr)
           try replace HX := hI (HX.out.below hb rr)
           try replace HY := hI (HY.out.below hb rr)
           try replace HZ := hI (HZ.out.below hb rr)
           try replace HU := hI (HU.out.below hb rr)
           try replace HV := hI (HV.out.below hb rr)
           try replace HP := hI (HP.out.below hb rr)
           try replace HQ := hI (HQ.out.below hb rr)
           try replace HI1 := hI (HI1.out.below hb rr)
           try replace HI2 := hI (HI2.out.below hb rr)
           try clear hb
           have HL1 := hI hl2
           clear hl2 hz2
           refine hK' _ _ ⟨.inr HG.out, fun _ => ?_⟩
           clear hK' K'
           (try simp only [Act.put, nY, nX])
           refine anyT_sp 4 rfl (fun K' hK' => ?_)
           rw [if_pos (by rfl)]
           unfold Oper.wp
           go_simp
           refine (derive_c _ 1 1 [⟨gD, ag⟩] _ 31 31 (longW.drop 1) X5 HL1.out HL31.out HT.out).mono ?_
           obtain ⟨r18, hr18⟩ : ∃ r18, r18 = deriveM (lawsD [⟨gD, ag⟩]) (longW.drop 1) := ⟨_, rfl⟩
           rw [← hr18]
           have hj := kn_j
           rw [show deriveM [gD] (longW.drop 1) = r18 from hr18.symm] at hj
           clear hr18
           obtain ⟨e18, y18⟩ := r18
           obtain ⟨rfl, hy32⟩ : e18 = 0 ∧ y18.length = 32 := hj
           rintro e X6 ⟨A18, n18, c18, rfl, hw18, hb, _⟩
           obtain rfl : n18 = 32 := by rw [← hw18.len]; exact hy32
           clear HL1 HL31 hw18 hy32
           replace HB0 := hI (HB0.out.trans (hb.mono HB0.out.size))
           replace HT := hI (HT.out.below hb rr)
           try replace HG := hI ((hb.block _ (lt_of_block HG.out)).trans HG.out)
           try replace HGA := hI (HGA.out.below hb rr)
           try replace HAPA := hI (HAPA.out.below hb rr)
           try replace HPAP := hI (HPAP.out.below hb rr)
           try replace HPA := hI (HPA.out.below hb rr)
           try replace HBAD := hI (HBAD.out.below hb rr)
           try replace HLONG := hI (HLONG.out.below hb rr)
           try replace HLAWS := hI (HLAWS.out.below hb rr)
           try replace HOVER := hI (HOVER.out.below hb rr)
           try replace HVF := hI (HVF.out.below hb rr)
           try replace HLA := hI (HLA.out.below hb rr)
           try replace HLB := hI (HLB.out.below hb rr)
           try replace HLC := hI (HLC.out.below hb rr)
           try replace HX := hI (HX.out.below hb rr)
           try replace HY := hI (HY.out.below hb rr)
           try replace HZ := hI (HZ.out.below hb rr)
           try replace HU := hI (HU.out.below hb rr)
           try replace HV := hI (HV.out.below hb rr)
           try replace HP := hI (HP.out.below hb rr)
           try replace HQ := hI (HQ.out.below hb rr)
           try replace HI1 := hI (HI1.out.below hb rr)
           try replace HI2 := hI (HI2.out.below hb rr)
           try clear hb
           refine hK' _ _ ⟨.inr HG.out, fun _ => ?_⟩
           clear hK' K'
           (try simp only [Act.put, nY, nX])
           (refine anyT_sp 5 rfl (fun K' hK' => ?_); simp only [nY]; go_simp)
           refine hK' _ _ ⟨.inr HG.out, fun _ => ?_⟩
           clear hK' K'
           (try simp only [Act.put, nY, nX])
           have hS3 := HG.out
           (refine' anyT_tk 6 rfl ?_; (try simp only [Act.put, nY, nX])); (refine' anyT_tk 7 rfl ?_; (try simp only [Act.put, nY, nX]))
           (refine anyT_sp 8 rfl (fun K' hK' => ?_); simp only [nY]; go_simp)
           refine hK' _ _ ⟨.inr HG.out, fun _ => ?_⟩
           clear hK' K'
           (try simp only [Act.put, nY, nX])
           (refine anyT_sp 9 rfl (fun K' hK' => ?_); simp only [nY]; go_simp)
           refine hK' _ _ ⟨.inl (by kernel_rfl), fun _ => anyT_done (by kernel_rfl) ?_ _⟩
           clear hK' K' hS3
           go_wp2_with fail
           refine (exV_c _).mono ?_
           rintro e X7 ⟨av, rfl, hl_, hb⟩
           replace HB0 := hI (HB0.out.trans (hb.mono HB0.out.size))
           replace HT := hI (HT.out.below hb rr)
           try replace HG := hI ((hb.block _ (lt_of_block HG.out)).trans HG.out)
           try replace HGA := hI (HGA.out.below hb rr)
           try replace HAPA := hI (HAPA.out.below hb rr)
           try replace HPAP := hI (HPAP.out.below hb rr)
           try replace HPA := hI (HPA.out.below hb rr)
           try replace HBAD := hI (HBAD.out.below hb rr)
           try replace HLONG := hI (HLONG.out.below hb rr)
           try replace HLAWS := hI (HLAWS.out.below hb rr)
           try replace HOVER := hI (HOVER.out.below hb rr)
           try replace HVF := hI (HVF.out.below hb rr)
           try replace HLA := hI (HLA.out.below hb rr)
           try replace HLB := hI (HLB.out.below hb rr)
           try replace HLC := hI (HLC.out.below hb rr)
           try replace HX := hI (HX.out.below hb rr)
           try replace HY := hI (HY.out.below hb rr)
           try replace HZ := hI (HZ.out.below hb rr)
           try replace HU := hI (HU.out.below hb rr)
           try replace HV := hI (HV.out.below hb rr)
           try replace HP := hI (HP.out.below hb rr)
           try replace HQ := hI (HQ.out.below hb rr)
           try replace HI1 := hI (HI1.out.below hb rr)
           try replace HI2 := hI (HI2.out.below hb rr)
           try clear hb
           have HLA := hI hl_; clear hl_
           go_wp2_with fail
           refine (exF_c _).mono ?_
           rintro e X8 ⟨af1, rfl, hl_, hb⟩
           replace HB0 := hI (HB0.out.trans (hb.mono HB0.out.size))
           replace HT := hI (HT.out.below hb rr)
           try replace HG := hI ((hb.block _ (lt_of_block HG.out)).trans HG.out)
           try replace HGA := hI (HGA.out.below hb rr)
           try replace HAPA := hI (HAPA.out.below hb rr)
           try replace HPAP := hI (HPAP.out.below hb rr)
           try replace HPA := hI (HPA.out.below hb rr)
           try replace HBAD := hI (HBAD.out.below hb rr)
           try replace HLONG := hI (HLONG.out.below hb rr)
           try replace HLAWS := hI (HLAWS.out.below hb rr)
           try replace HOVER := hI (HOVER.out.below hb rr)
           try replace HVF := hI (HVF.out.below hb rr)
           try replace HLA := hI (HLA.out.below hb rr)
           try replace HLB := hI (HLB.out.below hb rr)
           try replace HLC := hI (HLC.out.below hb rr)
           try replace HX := hI (HX.out.below hb rr)
           try replace HY := hI (HY.out.below hb rr)
           try replace HZ := hI (HZ.out.below hb rr)
           try replace HU := hI (HU.out.below hb rr)
           try replace HV := hI (HV.out.below hb rr)
           try replace HP := hI (HP.out.below hb rr)
           try replace HQ := hI (HQ.out.below hb rr)
           try replace HI1 := hI (HI1.out.below hb rr)
           try replace HI2 := hI (HI2.out.below hb rr)
           try clear hb
           have HLB := hI hl_; clear hl_
           go_wp2_with (refine law2A rfl (.tmp 179) (.tmp 180) rfl ⟨vD, av⟩ ⟨fD, af1⟩ rfl rfl HLA.out HLB.out ?hvf)
           case hvf =>
            intro X9 hl2 hb hz2
            replace HB0 := hI (HB0.out.trans (hb.mono HB0.out.size))
            replace HT := hI (HT.out.below hb rr)
            try replace HG := hI ((hb.block _ (lt_of_block HG.out)).trans HG.out)
            try replace HGA := hI (HGA.out.below hb rr)
            try replace HAPA := hI (HAPA.out.below hb rr)
            try replace HPAP := hI (HPAP.out.below hb rr)
            try replace HPA := hI (HPA.out.below hb rr)
            try replace HBAD := hI (HBAD.out.below hb rr)
            try replace HLONG := hI (HLONG.out.below hb rr)
            try replace HLAWS := hI (HLAWS.out.below hb rr)
            try replace HOVER := hI (HOVER.out.below hb rr)
            try replace HVF := hI (HVF.out.below hb rr)
            try replace HLA := hI (HLA.out.below hb rr)
            try replace HLB := hI (HLB.out.below hb rr)
            try replace HLC := hI (HLC.out.below hb rr)
            try replace HX := hI (HX.out.below hb rr)
            try replace HY := hI (HY.out.below hb rr)
            try replace HZ := hI (HZ.out.below hb rr)
            try replace HU := hI (HU.out.below hb rr)
            try replace HV := hI (HV.out.below hb rr)
            try replace HP := hI (HP.out.below hb rr)
            try replace HQ := hI (HQ.out.below hb rr)
            try replace HI1 := hI (HI1.out.below hb rr)
            try replace HI2 := hI (HI2.out.below hb rr)
            try clear hb
            clear HLA HLB hz2
            obtain ⟨bv, hbv⟩ : ∃ bv, bv = X8.heap.size := ⟨_, rfl⟩
            rw [← hbv] at hl2 ⊢
            clear hbv
            obtain ⟨vf, hvf⟩ : ∃ vf : List LawR, vf = [⟨vD, av⟩, ⟨fD, af1⟩] := ⟨_, rfl⟩
            have hvd : lawsD vf = [vD, fD] := by rw [hvf]; rfl
            rw [← hvf] at hl2
            have HVF := hI hl2; have HVD := hI hvd
            clear hl2 hvd hvf
            go_wp2_with fail
            refine (part_c _ 2 2 vf 1 2 _ 3 3 [sA, sP, sA] X9 HVF.out HAPA.out HT.out).mono ?_
            rw [HVD.out, kn_z]
            rintro e X10 ⟨A21, n21, c21, rfl, hw_, hb, _⟩
            replace HB0 := hI (HB0.out.trans (hb.mono HB0.out.size))
            replace HT := hI (HT.out.below hb rr)
            try replace HG := hI ((hb.block _ (lt_of_block HG.out)).trans HG.out)
            try replace HGA := hI (HGA.out.below hb rr)
            try replace HAPA := hI (HAPA.out.below hb rr)
            try replace HPAP := hI (HPAP.out.below hb rr)
            try replace HPA := hI (HPA.out.below hb rr)
            try replace HBAD := hI (HBAD.out.below hb rr)
            try replace HLONG := hI (HLONG.out.below hb rr)
            try replace HLAWS := hI (HLAWS.out.below hb rr)
            try replace HOVER := hI (HOVER.out.below hb rr)
            try replace HVF := hI (HVF.out.below hb rr)
            try replace HLA := hI (HLA.out.below hb rr)
            try replace HLB := hI (HLB.out.below hb rr)
            try replace HLC := hI (HLC.out.below hb rr)
            try replace HX := hI (HX.out.below hb rr)
            try replace HY := hI (HY.out.below hb rr)
            try replace HZ := hI (HZ.out.below hb rr)
            try replace HU := hI (HU.out.below hb rr)
            try replace HV := hI (HV.out.below hb rr)
            try replace HP := hI (HP.out.below hb rr)
            try replace HQ := hI (HQ.out.below hb rr)
            try replace HI1 := hI (HI1.out.below hb rr)
            try replace HI2 := hI (HI2.out.below hb rr)
            try clear hb
            have HZ := hI hw_; clear hw_
            go_wp2_with fail
            refine (part_c _ 2 2 vf 1 3 _ 3 3 [sA, sP, sA] X10 HVF.out HAPA.out HT.out).mono ?_
            rw [HVD.out]
            obtain ⟨⟨e22, y22⟩, hr⟩ : ∃ r, r = partM [vD, fD] 1 3 [sA, sP, sA] := ⟨_, rfl⟩
            rw [← hr]
            obtain rfl : e22 = 3 := (congrArg Prod.fst hr).trans kn_m
            clear hr
            rintro e X11 ⟨A22, n22, c22, rfl, hw_, hb, _⟩
            clear hw_
            replace HB0 := hI (HB0.out.trans (hb.mono HB0.out.size))
            replace HT := hI (HT.out.below hb rr)
            try replace HG := hI ((hb.block _ (lt_of_block HG.out)).trans HG.out)
            try replace HGA := hI (HGA.out.below hb rr)
            try replace HAPA := hI (HAPA.out.below hb rr)
            try replace HPAP := hI (HPAP.out.below hb rr)
            try replace HPA := hI (HPA.out.below hb rr)
            try replace HBAD := hI (HBAD.out.below hb rr)
            try replace HLONG := hI (HLONG.out.below hb rr)
            try replace HLAWS := hI (HLAWS.out.below hb rr)
            try replace HOVER := hI (HOVER.out.below hb rr)
            try replace HVF := hI (HVF.out.below hb rr)
            try replace HLA := hI (HLA.out.below hb rr)
            try replace HLB := hI (HLB.out.below hb rr)
            try replace HLC := hI (HLC.out.below hb rr)
            try replace HX := hI (HX.out.below hb rr)
            try replace HY := hI (HY.out.below hb rr)
            try replace HZ := hI (HZ.out.below hb rr)
            try replace HU := hI (HU.out.below hb rr)
            try replace HV := hI (HV.out.below hb rr)
            try replace HP := hI (HP.out.below hb rr)
            try replace HQ := hI (HQ.out.below hb rr)
            try replace HI1 := hI (HI1.out.below hb rr)
            try replace HI2 := hI (HI2.out.below hb rr)
            try clear hb
            go_wp2_with fail
            refine (part_c _ 2 2 vf 2 1 _ 3 3 [sA, sP, sA] X11 HVF.out HAPA.out HT.out).mono ?_
            rw [HVD.out]
            obtain ⟨⟨e23, y23⟩, hr⟩ : ∃ r, r = partM [vD, fD] 2 1 [sA, sP, sA] := ⟨_, rfl⟩
            rw [← hr]
            obtain rfl : e23 = 3 := (congrArg Prod.fst hr).trans kn_n
            clear hr
            rintro e X12 ⟨A23, n23, c23, rfl, hw_, hb, _⟩
            clear hw_
            replace HB0 := hI (HB0.out.trans (hb.mono HB0.out.size))
            replace HT := hI (HT.out.below hb rr)
            try replace HG := hI ((hb.block _ (lt_of_block HG.out)).trans HG.out)
            try replace HGA := hI (HGA.out.below hb rr)
            try replace HAPA := hI (HAPA.out.below hb rr)
            try replace HPAP := hI (HPAP.out.below hb rr)
            try replace HPA := hI (HPA.out.below hb rr)
            try replace HBAD := hI (HBAD.out.below hb rr)
            try replace HLONG := hI (HLONG.out.below hb rr)
            try replace HLAWS := hI (HLAWS.out.below hb rr)
            try replace HOVER := hI (HOVER.out.below hb rr)
            try replace HVF := hI (HVF.out.below hb rr)
            try replace HLA := hI (HLA.out.below hb rr)
            try replace HLB := hI (HLB.out.below hb rr)
            try replace HLC := hI (HLC.out.below hb rr)
            try replace HX := hI (HX.out.below hb rr)
            try replace HY := hI (HY.out.below hb rr)
            try replace HZ := hI (HZ.out.below hb rr)
            try replace HU := hI (HU.out.below hb rr)
            try replace HV := hI (HV.out.below hb rr)
            try replace HP := hI (HP.out.below hb rr)
            try replace HQ := hI (HQ.out.below hb rr)
            try replace HI1 := hI (HI1.out.below hb rr)
            try replace HI2 := hI (HI2.out.below hb rr)
            try clear hb
            go_wp2_with (first | (refine load_law rfl (.tmp 1) rfl bg gD ag rfl HG.out ?_) | (refine law2A rfl (.tmp 201) (.tmp 202) rfl ⟨gD, ag⟩ ⟨gD, ag⟩ rfl rfl HGA.out HGA.out ?hgg))
            case hgg =>
             intro X13 hl2 hb hz2
             replace HB0 := hI (HB0.out.trans (hb.mono HB0.out.size))
             replace HT := hI (HT.out.below hb rr)
             try replace HG := hI ((hb.block _ (lt_of_block HG.out)).trans HG.out)
             try replace HGA := hI (HGA.out.below hb rr)
             try replace HAPA := hI (HAPA.out.below hb rr)
             try replace HPAP := hI (HPAP.out.below hb rr)
             try replace HPA := hI (HPA.out.below hb rr)
             try replace HBAD := hI (HBAD.out.below hb rr)
             try replace HLONG := hI (HLONG.out.below hb rr)
             try replace HLAWS := hI (HLAWS.out.below hb rr)
             try replace HOVER := hI (HOVER.out.below hb rr)
             try replace HVF := hI (HVF.out.below hb rr)
             try replace HLA := hI (HLA.out.below hb rr)
             try replace HLB := hI (HLB.out.below hb rr)
             try replace HLC := hI (HLC.out.below hb rr)
             try replace HX := hI (HX.out.below hb rr)
             try replace HY := hI (HY.out.below hb rr)
             try replace HZ := hI (HZ.out.below hb rr)
             try replace HU := hI (HU.out.below hb rr)
             try replace HV := hI (HV.out.below hb rr)
             try replace HP := hI (HP.out.below hb rr)
             try replace HQ := hI (HQ.out.below hb rr)
             try replace HI1 := hI (HI1.out.below hb rr)
             try replace HI2 := hI (HI2.out.below hb rr)
             try clear hb
             have HL1 := hI hl2
             clear hl2 hz2
             go_wp2_with fail
             refine (part_c _ 2 2 [⟨gD, ag⟩, ⟨gD, ag⟩] 0 3 _ 32 32 longW X13 HL1.out HLONG.out HT.out).mono ?_
             rw [show lawsD [⟨gD, ag⟩, ⟨gD, ag⟩] = [gD, gD] from rfl]
             obtain ⟨⟨e24, y24⟩, hr⟩ : ∃ r, r = partM [gD, gD] 0 3 longW := ⟨_, rfl⟩
             rw [← hr]
             obtain rfl : e24 = 3 := (congrArg Prod.fst hr).trans kn_o
             clear hr
             rintro e X14 ⟨A24, n24, c24, rfl, hw_, hb, _⟩
             clear hw_ HL1
             replace HB0 := hI (HB0.out.trans (hb.mono HB0.out.size))
             replace HT := hI (HT.out.below hb rr)
             try replace HG := hI ((hb.block _ (lt_of_block HG.out)).trans HG.out)
             try replace HGA := hI (HGA.out.below hb rr)
             try replace HAPA := hI (HAPA.out.below hb rr)
             try replace HPAP := hI (HPAP.out.below hb rr)
             try replace HPA := hI (HPA.out.below hb rr)
             try replace HBAD := hI (HBAD.out.below hb rr)
             try replace HLONG := hI (HLONG.out.below hb rr)
             try replace HLAWS := hI (HLAWS.out.below hb rr)
             try replace HOVER := hI (HOVER.out.below hb rr)
             try replace HVF := hI (HVF.out.below hb rr)
             try replace HLA := hI (HLA.out.below hb rr)
             try replace HLB := hI (HLB.out.below hb rr)
             try replace HLC := hI (HLC.out.below hb rr)
             try replace HX := hI (HX.out.below hb rr)
             try replace HY := hI (HY.out.below hb rr)
             try replace HZ := hI (HZ.out.below hb rr)
             try replace HU := hI (HU.out.below hb rr)
             try replace HV := hI (HV.out.below hb rr)
             try replace HP := hI (HP.out.below hb rr)
             try replace HQ := hI (HQ.out.below hb rr)
             try replace HI1 := hI (HI1.out.below hb rr)
             try replace HI2 := hI (HI2.out.below hb rr)
             try clear hb
             go_wp2_with fail
             refine (part_c _ 2 2 vf 2 2 _ 3 3 [sA, sP, sA] X14 HVF.out HAPA.out HT.out).mono ?_
             rw [HVD.out, kn_q]
             rintro e X15 ⟨A25, n25, c25, rfl, hw_, hb, _⟩
             replace HB0 := hI (HB0.out.trans (hb.mono HB0.out.size))
             replace HT := hI (HT.out.below hb rr)
             try replace HG := hI ((hb.block _ (lt_of_block HG.out)).trans HG.out)
             try replace HGA := hI (HGA.out.below hb rr)
             try replace HAPA := hI (HAPA.out.below hb rr)
             try replace HPAP := hI (HPAP.out.below hb rr)
             try replace HPA := hI (HPA.out.below hb rr)
             try replace HBAD := hI (HBAD.out.below hb rr)
             try replace HLONG := hI (HLONG.out.below hb rr)
             try replace HLAWS := hI (HLAWS.out.below hb rr)
             try replace HOVER := hI (HOVER.out.below hb rr)
             try replace HVF := hI (HVF.out.below hb rr)
             try replace HLA := hI (HLA.out.below hb rr)
             try replace HLB := hI (HLB.out.below hb rr)
             try replace HLC := hI (HLC.out.below hb rr)
             try replace HX := hI (HX.out.below hb rr)
             try replace HY := hI (HY.out.below hb rr)
             try replace HZ := hI (HZ.out.below hb rr)
             try replace HU := hI (HU.out.below hb rr)
             try replace HV := hI (HV.out.below hb rr)
             try replace HP := hI (HP.out.below hb rr)
             try replace HQ := hI (HQ.out.below hb rr)
             try replace HI1 := hI (HI1.out.below hb rr)
             try replace HI2 := hI (HI2.out.below hb rr)
             try clear hb
             have HY := hI hw_; clear hw_
             go_wp2_with fail
             refine (exA_c _).mono ?_
             rintro e X16 ⟨rfl, hb⟩
             replace HB0 := hI (HB0.out.trans (hb.mono HB0.out.size))
             replace HT := hI (HT.out.below hb rr)
             try replace HG := hI ((hb.block _ (lt_of_block HG.out)).trans HG.out)
             try replace HGA := hI (HGA.out.below hb rr)
             try replace HAPA := hI (HAPA.out.below hb rr)
             try replace HPAP := hI (HPAP.out.below hb rr)
             try replace HPA := hI (HPA.out.below hb rr)
             try replace HBAD := hI (HBAD.out.below hb rr)
             try replace HLONG := hI (HLONG.out.below hb rr)
             try replace HLAWS := hI (HLAWS.out.below hb rr)
             try replace HOVER := hI (HOVER.out.below hb rr)
             try replace HVF := hI (HVF.out.below hb rr)
             try replace HLA := hI (HLA.out.below hb rr)
             try replace HLB := hI (HLB.out.below hb rr)
             try replace HLC := hI (HLC.out.below hb rr)
             try replace HX := hI (HX.out.below hb rr)
             try replace HY := hI (HY.out.below hb rr)
             try replace HZ := hI (HZ.out.below hb rr)
             try replace HU := hI (HU.out.below hb rr)
             try replace HV := hI (HV.out.below hb rr)
             try replace HP := hI (HP.out.below hb rr)
             try replace HQ := hI (HQ.out.below hb rr)
             try replace HI1 := hI (HI1.out.below hb rr)
             try replace HI2 := hI (HI2.out.below hb rr)
             try clear hb
             go_wp2_with fail
             refine (exP_c _).mono ?_
             rintro e X17 ⟨rfl, hb⟩
             replace HB0 := hI (HB0.out.trans (hb.mono HB0.out.size))
             replace HT := hI (HT.out.below hb rr)
             try replace HG := hI ((hb.block _ (lt_of_block HG.out)).trans HG.out)
             try replace HGA := hI (HGA.out.below hb rr)
             try replace HAPA := hI (HAPA.out.below hb rr)
             try replace HPAP := hI (HPAP.out.below hb rr)
             try replace HPA := hI (HPA.out.below hb rr)
             try replace HBAD := hI (HBAD.out.below hb rr)
             try replace HLONG := hI (HLONG.out.below hb rr)
             try replace HLAWS := hI (HLAWS.out.below hb rr)
             try replace HOVER := hI (HOVER.out.below hb rr)
             try replace HVF := hI (HVF.out.below hb rr)
             try replace HLA := hI (HLA.out.below hb rr)
             try replace HLB := hI (HLB.out.below hb rr)
             try replace HLC := hI (HLC.out.below hb rr)
             try replace HX := hI (HX.out.below hb rr)
             try replace HY := hI (HY.out.below hb rr)
             try replace HZ := hI (HZ.out.below hb rr)
             try replace HU := hI (HU.out.below hb rr)
             try replace HV := hI (HV.out.below hb rr)
             try replace HP := hI (HP.out.below hb rr)
             try replace HQ := hI (HQ.out.below hb rr)
             try replace HI1 := hI (HI1.out.below hb rr)
             try replace HI2 := hI (HI2.out.below hb rr)
             try clear hb
             go_wp2_with fail
             have HU := hI (built_word X17 [sA, sP] 24 (by simp))
             have hb : Below X17.heap.size X17 (X17.alloc (.cells (wcells [sA, sP]).toArray 24)) := bel
             replace HB0 := hI (HB0.out.trans (hb.mono HB0.out.size))
             replace HT := hI (HT.out.below hb rr)
             try replace HG := hI ((hb.block _ (lt_of_block HG.out)).trans HG.out)
             try replace HGA := hI (HGA.out.below hb rr)
             try replace HAPA := hI (HAPA.out.below hb rr)
             try replace HPAP := hI (HPAP.out.below hb rr)
             try replace HPA := hI (HPA.out.below hb rr)
             try replace HBAD := hI (HBAD.out.below hb rr)
             try replace HLONG := hI (HLONG.out.below hb rr)
             try replace HLAWS := hI (HLAWS.out.below hb rr)
             try replace HOVER := hI (HOVER.out.below hb rr)
             try replace HVF := hI (HVF.out.below hb rr)
             try replace HLA := hI (HLA.out.below hb rr)
             try replace HLB := hI (HLB.out.below hb rr)
             try replace HLC := hI (HLC.out.below hb rr)
             try replace HX := hI (HX.out.below hb rr)
             try replace HY := hI (HY.out.below hb rr)
             try replace HZ := hI (HZ.out.below hb rr)
             try replace HU := hI (HU.out.below hb rr)
             try replace HV := hI (HV.out.below hb rr)
             try replace HP := hI (HP.out.below hb rr)
             try replace HQ := hI (HQ.out.below hb rr)
             try replace HI1 := hI (HI1.out.below hb rr)
             try replace HI2 := hI (HI2.out.below hb rr)
             try clear hb
             rw [show X17.alloc (.cells #[.int .u32 sA.1, .int .u32 sA.2, .int .u32 sP.1, .int .u32 sP.2] 24) = X17.alloc (.cells (wcells [sA, sP]).toArray 24) from rfl]
             generalize X17.alloc (.cells (wcells [sA, sP]).toArray 24) = X18 at *
             refine (wEqual_c A21 _ n21 2 c21 2 [sA, sP] [sA, sP] X18 HZ.out HU.out).mono ?_
             rintro e X19 ⟨rfl, hb⟩
             replace HB0 := hI (HB0.out.trans (hb.mono HB0.out.size))
             replace HT := hI (HT.out.below hb rr)
             try replace HG := hI ((hb.block _ (lt_of_block HG.out)).trans HG.out)
             try replace HGA := hI (HGA.out.below hb rr)
             try replace HAPA := hI (HAPA.out.below hb rr)
             try replace HPAP := hI (HPAP.out.below hb rr)
             try replace HPA := hI (HPA.out.below hb rr)
             try replace HBAD := hI (HBAD.out.below hb rr)
             try replace HLONG := hI (HLONG.out.below hb rr)
             try replace HLAWS := hI (HLAWS.out.below hb rr)
             try replace HOVER := hI (HOVER.out.below hb rr)
             try replace HVF := hI (HVF.out.below hb rr)
             try replace HLA := hI (HLA.out.below hb rr)
             try replace HLB := hI (HLB.out.below hb rr)
             try replace HLC := hI (HLC.out.below hb rr)
             try replace HX := hI (HX.out.below hb rr)
             try replace HY := hI (HY.out.below hb rr)
             try replace HZ := hI (HZ.out.below hb rr)
             try replace HU := hI (HU.out.below hb rr)
             try replace HV := hI (HV.out.below hb rr)
             try replace HP := hI (HP.out.below hb rr)
             try replace HQ := hI (HQ.out.below hb rr)
             try replace HI1 := hI (HI1.out.below hb rr)
             try replace HI2 := hI (HI2.out.below hb rr)
             try clear hb
             rw [show decide (([sA, sP] : List Snd) = [sA, sP]) = true from decide_eq_true rfl]
             clear HU HZ
             go_wp2_with fail
             refine (wEqual_c A25 _ n25 3 c25 3 [sA, sP, sA] [sA, sP, sA] X19 HY.out HAPA.out).mono ?_
             rintro e X20 ⟨rfl, hb⟩
             replace HB0 := hI (HB0.out.trans (hb.mono HB0.out.size))
             replace HT := hI (HT.out.below hb rr)
             try replace HG := hI ((hb.block _ (lt_of_block HG.out)).trans HG.out)
             try replace HGA := hI (HGA.out.below hb rr)
             try replace HAPA := hI (HAPA.out.below hb rr)
             try replace HPAP := hI (HPAP.out.below hb rr)
             try replace HPA := hI (HPA.out.below hb rr)
             try replace HBAD := hI (HBAD.out.below hb rr)
             try replace HLONG := hI (HLONG.out.below hb rr)
             try replace HLAWS := hI (HLAWS.out.below hb rr)
             try replace HOVER := hI (HOVER.out.below hb rr)
             try replace HVF := hI (HVF.out.below hb rr)
             try replace HLA := hI (HLA.out.below hb rr)
             try replace HLB := hI (HLB.out.below hb rr)
             try replace HLC := hI (HLC.out.below hb rr)
             try replace HX := hI (HX.out.below hb rr)
             try replace HY := hI (HY.out.below hb rr)
             try replace HZ := hI (HZ.out.below hb rr)
             try replace HU := hI (HU.out.below hb rr)
             try replace HV := hI (HV.out.below hb rr)
             try replace HP := hI (HP.out.below hb rr)
             try replace HQ := hI (HQ.out.below hb rr)
             try replace HI1 := hI (HI1.out.below hb rr)
             try replace HI2 := hI (HI2.out.below hb rr)
             try clear hb
             rw [show decide (([sA, sP, sA] : List Snd) = [sA, sP, sA]) = true from decide_eq_true rfl]
             clear HY
             go_wp2_with fail
             refine (exV_c _).mono ?_
             rintro e X21 ⟨av1, rfl, hl_, hb⟩
             replace HB0 := hI (HB0.out.trans (hb.mono HB0.out.size))
             replace HT := hI (HT.out.below hb rr)
             try replace HG := hI ((hb.block _ (lt_of_block HG.out)).trans HG.out)
             try replace HGA := hI (HGA.out.below hb rr)
             try replace HAPA := hI (HAPA.out.below hb rr)
             try replace HPAP := hI (HPAP.out.below hb rr)
             try replace HPA := hI (HPA.out.below hb rr)
             try replace HBAD := hI (HBAD.out.below hb rr)
             try replace HLONG := hI (HLONG.out.below hb rr)
             try replace HLAWS := hI (HLAWS.out.below hb rr)
             try replace HOVER := hI (HOVER.out.below hb rr)
             try replace HVF := hI (HVF.out.below hb rr)
             try replace HLA := hI (HLA.out.below hb rr)
             try replace HLB := hI (HLB.out.below hb rr)
             try replace HLC := hI (HLC.out.below hb rr)
             try replace HX := hI (HX.out.below hb rr)
             try replace HY := hI (HY.out.below hb rr)
             try replace HZ := hI (HZ.out.below hb rr)
             try replace HU := hI (HU.out.below hb rr)
             try replace HV := hI (HV.out.below hb rr)
             try replace HP := hI (HP.out.below hb rr)
             try replace HQ := hI (HQ.out.below hb rr)
             try replace HI1 := hI (HI1.out.below hb rr)
             try replace HI2 := hI (HI2.out.below hb rr)
             try clear hb
             have HLA := hI hl_; clear hl_
             go_wp2_with fail
             refine (exV_c _).mono ?_
             rintro e X22 ⟨av2, rfl, hl_, hb⟩
             replace HB0 := hI (HB0.out.trans (hb.mono HB0.out.size))
             replace HT := hI (HT.out.below hb rr)
             try replace HG := hI ((hb.block _ (lt_of_block HG.out)).trans HG.out)
             try replace HGA := hI (HGA.out.below hb rr)
             try replace HAPA := hI (HAPA.out.below hb rr)
             try replace HPAP := hI (HPAP.out.below hb rr)
             try replace HPA := hI (HPA.out.below hb rr)
             try replace HBAD := hI (HBAD.out.below hb rr)
             try replace HLONG := hI (HLONG.out.below hb rr)
             try replace HLAWS := hI (HLAWS.out.below hb rr)
             try replace HOVER := hI (HOVER.out.below hb rr)
             try replace HVF := hI (HVF.out.below hb rr)
             try replace HLA := hI (HLA.out.below hb rr)
             try replace HLB := hI (HLB.out.below hb rr)
             try replace HLC := hI (HLC.out.below hb rr)
             try replace HX := hI (HX.out.below hb rr)
             try replace HY := hI (HY.out.below hb rr)
             try replace HZ := hI (HZ.out.below hb rr)
             try replace HU := hI (HU.out.below hb rr)
             try replace HV := hI (HV.out.below hb rr)
             try replace HP := hI (HP.out.below hb rr)
             try replace HQ := hI (HQ.out.below hb rr)
             try replace HI1 := hI (HI1.out.below hb rr)
             try replace HI2 := hI (HI2.out.below hb rr)
             try clear hb
             have HLB := hI hl_; clear hl_
             go_wp2_with fail
             refine (exF_c _).mono ?_
             rintro e X23 ⟨af2, rfl, hl_, hb⟩
             replace HB0 := hI (HB0.out.trans (hb.mono HB0.out.size))
             replace HT := hI (HT.out.below hb rr)
             try replace HG := hI ((hb.block _ (lt_of_block HG.out)).trans HG.out)
             try replace HGA := hI (HGA.out.below hb rr)
             try replace HAPA := hI (HAPA.out.below hb rr)
             try replace HPAP := hI (HPAP.out.below hb rr)
             try replace HPA := hI (HPA.out.below hb rr)
             try replace HBAD := hI (HBAD.out.below hb rr)
             try replace HLONG := hI (HLONG.out.below hb rr)
             try replace HLAWS := hI (HLAWS.out.below hb rr)
             try replace HOVER := hI (HOVER.out.below hb rr)
             try replace HVF := hI (HVF.out.below hb rr)
             try replace HLA := hI (HLA.out.below hb rr)
             try replace HLB := hI (HLB.out.below hb rr)
             try replace HLC := hI (HLC.out.below hb rr)
             try replace HX := hI (HX.out.below hb rr)
             try replace HY := hI (HY.out.below hb rr)
             try replace HZ := hI (HZ.out.below hb rr)
             try replace HU := hI (HU.out.below hb rr)
             try replace HV := hI (HV.out.below hb rr)
             try replace HP := hI (HP.out.below hb rr)
             try replace HQ := hI (HQ.out.below hb rr)
             try replace HI1 := hI (HI1.out.below hb rr)
             try replace HI2 := hI (HI2.out.below hb rr)
             try clear hb
             have HLC := hI hl_; clear hl_
             go_wp2_with (refine law3A rfl (.tmp 247) (.tmp 248) (.tmp 249) rfl ⟨vD, av1⟩ ⟨vD, av2⟩ ⟨fD, af2⟩ rfl rfl rfl HLA.out HLB.out HLC.out ?hi1)
             case hi1 =>
              intro X24 hl2 hb hz2
              replace HB0 := hI (HB0.out.trans (hb.mono HB0.out.size))
              replace HT := hI (HT.out.below hb rr)
              try replace HG := hI ((hb.block _ (lt_of_block HG.out)).trans HG.out)
              try replace HGA := hI (HGA.out.below hb rr)
              try replace HAPA := hI (HAPA.out.below hb rr)
              try replace HPAP := hI (HPAP.out.below hb rr)
              try replace HPA := hI (HPA.out.below hb rr)
              try replace HBAD := hI (HBAD.out.below hb rr)
              try replace HLONG := hI (HLONG.out.below hb rr)
              try replace HLAWS := hI (HLAWS.out.below hb rr)
              try replace HOVER := hI (HOVER.out.below hb rr)
              try replace HVF := hI (HVF.out.below hb rr)
              try replace HLA := hI (HLA.out.below hb rr)
              try replace HLB := hI (HLB.out.below hb rr)
              try replace HLC := hI (HLC.out.below hb rr)
              try replace HX := hI (HX.out.below hb rr)
              try replace HY := hI (HY.out.below hb rr)
              try replace HZ := hI (HZ.out.below hb rr)
              try replace HU := hI (HU.out.below hb rr)
              try replace HV := hI (HV.out.below hb rr)
              try replace HP := hI (HP.out.below hb rr)
              try replace HQ := hI (HQ.out.below hb rr)
              try replace HI1 := hI (HI1.out.below hb rr)
              try replace HI2 := hI (HI2.out.below hb rr)
              try clear hb
              have HL3 := hI hl2
              clear hl2 hz2 HLA HLB HLC
              have hws := built_words X24 [(some ⟨bq, 0, none⟩, 3, 3, [sA, sP, sA]), (some ⟨br, 0, none⟩, 2, 2, [sP, sA])] 32 (by simp) (fun p hp => by
               simp only [List.mem_cons, List.not_mem_nil, or_false] at hp
               rcases hp with rfl | rfl
               ·exact HAPA.out
               ·exact HPA.out)
              have hb : Below X24.heap.size X24 (X24.alloc (.cells (([(some ⟨bq, 0, none⟩, 3, 3, [sA, sP, sA]), (some ⟨br, 0, none⟩, 2, 2, [sP, sA])] : List Part).map Part.val).toArray 32)) := bel
              have HL3' := hI (HL3.out.below hb rr)
              have HWS := hI hws
              go_wp2_with fail
              refine (idle_c _ 3 3 [⟨vD, av1⟩, ⟨vD, av2⟩, ⟨fD, af2⟩] _ 2 2 [[sA, sP, sA], [sP, sA]] _ HL3'.out HWS.out (HT.out.below hb rr)).mono ?_
              rw [show idleM (lawsD [⟨vD, av1⟩, ⟨vD, av2⟩, ⟨fD, af2⟩]) [[sA, sP, sA], [sP, sA]] = (0, [0, 1]) from kn_r]
              rintro e X25 ⟨A31, n31, c31, rfl, hi, hb9⟩
              clear HL3 HL3' HWS hws
              replace hb := hb.trans (hb9.mono hb.size)
              clear hb9
              replace HB0 := hI (HB0.out.trans (hb.mono HB0.out.size))
              replace HT := hI (HT.out.below hb rr)
              try replace HG := hI ((hb.block _ (lt_of_block HG.out)).trans HG.out)
              try replace HGA := hI (HGA.out.below hb rr)
              try replace HAPA := hI (HAPA.out.below hb rr)
              try replace HPAP := hI (HPAP.out.below hb rr)
              try replace HPA := hI (HPA.out.below hb rr)
              try replace HBAD := hI (HBAD.out.below hb rr)
              try replace HLONG := hI (HLONG.out.below hb rr)
              try replace HLAWS := hI (HLAWS.out.below hb rr)
              try replace HOVER := hI (HOVER.out.below hb rr)
              try replace HVF := hI (HVF.out.below hb rr)
              try replace HLA := hI (HLA.out.below hb rr)
              try replace HLB := hI (HLB.out.below hb rr)
              try replace HLC := hI (HLC.out.below hb rr)
              try replace HX := hI (HX.out.below hb rr)
              try replace HY := hI (HY.out.below hb rr)
              try replace HZ := hI (HZ.out.below hb rr)
              try replace HU := hI (HU.out.below hb rr)
              try replace HV := hI (HV.out.below hb rr)
              try replace HP := hI (HP.out.below hb rr)
              try replace HQ := hI (HQ.out.below hb rr)
              try replace HI1 := hI (HI1.out.below hb rr)
              try replace HI2 := hI (HI2.out.below hb rr)
              try clear hb
              have HI1 := hI hi
              clear hi
              go_wp2_with fail
              refine (idle_c _ 2 2 vf none 0 0 [] X25 HVF.out (IsWords.nil _) HT.out).mono ?_
              rw [HVD.out, kn_s]
              rintro e X26 ⟨A33, n33, c33i, rfl, hi, hb⟩
              replace HI1 := hI (HI1.out.below hb rr)
              replace HB0 := hI (HB0.out.trans (hb.mono HB0.out.size))
              replace HT := hI (HT.out.below hb rr)
              try replace HG := hI ((hb.block _ (lt_of_block HG.out)).trans HG.out)
              try replace HGA := hI (HGA.out.below hb rr)
              try replace HAPA := hI (HAPA.out.below hb rr)
              try replace HPAP := hI (HPAP.out.below hb rr)
              try replace HPA := hI (HPA.out.below hb rr)
              try replace HBAD := hI (HBAD.out.below hb rr)
              try replace HLONG := hI (HLONG.out.below hb rr)
              try replace HLAWS := hI (HLAWS.out.below hb rr)
              try replace HOVER := hI (HOVER.out.below hb rr)
              try replace HVF := hI (HVF.out.below hb rr)
              try replace HLA := hI (HLA.out.below hb rr)
              try replace HLB := hI (HLB.out.below hb rr)
              try replace HLC := hI (HLC.out.below hb rr)
              try replace HX := hI (HX.out.below hb rr)
              try replace HY := hI (HY.out.below hb rr)
              try replace HZ := hI (HZ.out.below hb rr)
              try replace HU := hI (HU.out.below hb rr)
              try replace HV := hI (HV.out.below hb rr)
              try replace HP := hI (HP.out.below hb rr)
              try replace HQ := hI (HQ.out.below hb rr)
              try replace HI1 := hI (HI1.out.below hb rr)
              try replace HI2 := hI (HI2.out.below hb rr)
              try clear hb
              have HI2 := hI hi
              clear hi
              go_upto_region 30 with fail
              go_cut [35, 36] from 262 to 271 (fun s35 s36 wx => ∃ (A0 : Option Addr) (n0 c0 : Nat), s35 = .slice A0 n0 c0 ∧ s36 = .int .i64 11 ∧ Below X26.heap.size X26 wx)
              case first =>
               have HFIN : Hid (∀ (X : World) (af : LawA) (b1 b2 : Nat), Below X26.heap.size X26 X → IsLaws X (some ⟨b1, 0, none⟩) 2 2 [⟨gD, ag⟩, ⟨fD, af⟩] → IsWords X (some ⟨b2, 0, none⟩) 2 2 [[sA, sP, sA], longW] →
                 Calls Tryz.prog 23 #[.slice (some ⟨b1, 0, none⟩) 2 2, .slice (some ⟨b2, 0, none⟩) 2 2] X fun e w' => ∃ A n c, e = .returned (.tuple #[.slice A n c, .int .i64 11]) ∧ Below X.heap.size X w') := by
                intro X af b1 b2 hX h1 h2
                refine (idle_c _ 2 2 [⟨gD, ag⟩, ⟨fD, af⟩] _ 2 2 [[sA, sP, sA], longW] X h1 h2 (HT.out.below hX rr)).mono ?_
                obtain ⟨⟨e35, y35⟩, hr⟩ : ∃ r, r = idleM (lawsD [⟨gD, ag⟩, ⟨fD, af⟩]) [[sA, sP, sA], longW] := ⟨_, rfl⟩
                rw [← hr]
                obtain rfl : e35 = 11 := (congrArg Prod.fst hr).trans kn_t
                rintro e w' ⟨A, n, c, rfl, _, hb⟩
                exact ⟨A, n, c, rfl, hb⟩
               refine plain_region (fun X => X.heap[bg]? = some (.cells (lawCs gD ag) 34 (0, 0))) (by kernel_rfl) HG.out (fun hHeld => ?_)
               (refine' anyT_take (i := 0) (v := lawV gD ag) rfl (by kernel_rfl) (by kernel_rfl) (by kernel_rfl) (by kernel_rfl) (fun _ _ _ h => h) (yields_law (by rfl) (.tmp 1) rfl bg gD ag (by rfl) (fun w' hSw => hSw)) (by assumption) ?_; (try simp only [Act.put, nY, nX]))
               (refine' anyT_tk 3 rfl ?_; (try simp only [Act.put, nY, nX])); (refine' anyT_tk 4 rfl ?_; (try simp only [Act.put, nY, nX]))
               clear hHeld
               have HBX : Hid (Below X26.heap.size X26 X26.drew) := (Below.refl _ _).drew
               have HGX : Hid (X26.drew.heap[bg]? = some (.cells (lawCs gD ag) 34 (0, 0))) := HG.out
               clear HB0 HT HG HPAP HPA HBAD HLAWS HVF HI1 HI2 HXD HVD
               generalize X26.drew = X at *
               refine anyT_two (i := 1) (j := 5) (by kernel_rfl) rfl rfl (fun K' hK' => ?_) (fun K' hK' => ?_)
               all_goals rw [if_pos (by rfl)]
               ·unfold Oper.wp
                go_simp
                refine (exF_c _).mono ?_
                rintro e Y1 ⟨af, rfl, hla, hb⟩
                replace HGX := hI ((hb.block _ (lt_of_block HGX.out)).trans HGX.out)
                replace HBX := hI (HBX.out.trans (hb.mono HBX.out.size))
                try replace HLA := hI (HLA.out.below hb rr)
                try replace HL2 := hI (HL2.out.below hb rr)
                try replace HWS := hI (HWS.out.below hb rr)
                clear hb
                have HLA := hI hla
                clear hla
                refine hK' _ _ ⟨.inr HGX.out, fun _ => ?_⟩
                clear hK' K'
                (try simp only [Act.put, nY, nX])
                refine anyT_two (i := 2) (j := 5) (by kernel_rfl) rfl rfl (fun K' hK' => ?_) (fun K' hK' => ?_)
                all_goals rw [if_pos (by rfl)]
                ·refine upon_law2 Y1 (.tmp 263) (.tmp 264) rfl ⟨gD, ag⟩ ⟨fD, af⟩ (by rfl) (by rfl) (HGA.out.below HBX.out rr) HLA.out ?_
                 intro Y2 hl hb hz
                 replace HGX := hI ((hb.block _ (lt_of_block HGX.out)).trans HGX.out)
                 replace HBX := hI (HBX.out.trans (hb.mono HBX.out.size))
                 try replace HLA := hI (HLA.out.below hb rr)
                 try replace HL2 := hI (HL2.out.below hb rr)
                 try replace HWS := hI (HWS.out.below hb rr)
                 clear hb
                 obtain ⟨bL, hbL⟩ : ∃ bL, bL = Y1.heap.size := ⟨_, rfl⟩
                 rw [← hbL] at hl ⊢
                 have HL2 := hI hl
                 clear hl hz hbL
                 refine hK' _ _ ⟨.inr HGX.out, fun _ => ?_⟩
                 clear hK' K'
                 (try simp only [Act.put, nY, nX])
                 refine anyT_sp 5 rfl (fun K' hK' => ?_)
                 rw [if_pos (by rfl)]
                 unfold Oper.wp
                 go_simp
                 have hws := built_words Y2 [(some ⟨bq, 0, none⟩, 3, 3, [sA, sP, sA]), (some ⟨br + 1 + 1, 0, none⟩, 32, 32, longW)] 32 (by simp) (fun p hp => by
                  simp only [List.mem_cons, List.not_mem_nil, or_false] at hp
                  rcases hp with rfl | rfl
                  ·exact HAPA.out.below HBX.out rr
                  ·exact HLONG.out.below HBX.out rr)
                 have hb : Below Y2.heap.size Y2 (Y2.alloc (.cells (([(some ⟨bq, 0, none⟩, 3, 3, [sA, sP, sA]), (some ⟨br + 1 + 1, 0, none⟩, 32, 32, longW)] : List Part).map Part.val).toArray 32)) := bel
                 replace HGX := hI ((hb.block _ (lt_of_block HGX.out)).trans HGX.out)
                 replace HBX := hI (HBX.out.trans (hb.mono HBX.out.size))
                 try replace HLA := hI (HLA.out.below hb rr)
                 try replace HL2 := hI (HL2.out.below hb rr)
                 try replace HWS := hI (HWS.out.below hb rr)
                 clear hb
                 refine hK' _ _ ⟨.inr HGX.out, fun _ => ?_⟩
                 clear hK' K'
                 have HWS := hI hws
                 clear hws
                 obtain ⟨bW, hbW⟩ : ∃ bW, bW = Y2.heap.size := ⟨_, rfl⟩
                 rw [← hbW] at HWS ⊢
                 clear hbW
                 change anyT _ _ _ _ _ _ _ _ (Y2.alloc (.cells (([(some ⟨bq, 0, none⟩, 3, 3, [sA, sP, sA]), (some ⟨br + 1 + 1, 0, none⟩, 32, 32, longW)] : List Part).map Part.val).toArray 32))
                 generalize Y2.alloc (.cells (([(some ⟨bq, 0, none⟩, 3, 3, [sA, sP, sA]), (some ⟨br + 1 + 1, 0, none⟩, 32, 32, longW)] : List Part).map Part.val).toArray 32) = Y3 at *
                 (try simp only [Act.put, nY, nX])
                 refine anyT_sp 6 rfl (fun K' hK' => ?_)
                 rw [if_pos (by rfl)]
                 unfold Oper.wp
                 go_simp
                 refine (HFIN.out Y3 af bL bW HBX.out HL2.out HWS.out).mono ?_
                 rintro e Y9 ⟨A9, n9, c9, rfl, hb⟩
                 replace HGX := hI ((hb.block _ (lt_of_block HGX.out)).trans HGX.out)
                 replace HBX := hI (HBX.out.trans (hb.mono HBX.out.size))
                 try replace HLA := hI (HLA.out.below hb rr)
                 try replace HL2 := hI (HL2.out.below hb rr)
                 try replace HWS := hI (HWS.out.below hb rr)
                 clear hb
                 refine hK' _ _ ⟨.inr HGX.out, fun _ => ?_⟩
                 clear hK' K'
                 (try simp only [Act.put, nY, nX])
                 (refine anyT_sp 7 rfl (fun K' hK' => ?_); simp only [nY]; go_simp)
                 refine hK' _ _ ⟨.inr HGX.out, fun _ => ?_⟩
                 clear hK' K'
                 (try simp only [Act.put, nY, nX])
                 have hS3 := HGX.out
                 (refine' anyT_tk 8 rfl ?_; (try simp only [Act.put, nY, nX])); (refine' anyT_tk 9 rfl ?_; (try simp only [Act.put, nY, nX]))
                 (refine anyT_sp 10 rfl (fun K' hK' => ?_); simp only [nY]; go_simp)
                 refine hK' _ _ ⟨.inr HGX.out, fun _ => ?_⟩
                 clear hK' K'
                 (try simp only [Act.put, nY, nX])
                 (refine anyT_sp 11 rfl (fun K' hK' => ?_); simp only [nY]; go_simp)
                 refine hK' _ _ ⟨.inl (by kernel_rfl), fun _ => anyT_done (by kernel_rfl) ?_ _⟩
                 clear hK' K' hS3
                 go_wp2_with fail
                 go_meet
                 exact ⟨A9, n9, c9, rfl, rfl, HBX.out⟩
                ·unfold Oper.wp
                 go_simp
                 have hws := built_words Y1 [(some ⟨bq, 0, none⟩, 3, 3, [sA, sP, sA]), (some ⟨br + 1 + 1, 0, none⟩, 32, 32, longW)] 32 (by simp) (fun p hp => by
                  simp only [List.mem_cons, List.not_mem_nil, or_false] at hp
                  rcases hp with rfl | rfl
                  ·exact HAPA.out.below HBX.out rr
                  ·exact HLONG.out.below HBX.out rr)
                 have hb : Below Y1.heap.size Y1 (Y1.alloc (.cells (([(some ⟨bq, 0, none⟩, 3, 3, [sA, sP, sA]), (some ⟨br + 1 + 1, 0, none⟩, 32, 32, longW)] : List Part).map Part.val).toArray 32)) := bel
                 replace HGX := hI ((hb.block _ (lt_of_block HGX.out)).trans HGX.out)
                 replace HBX := hI (HBX.out.trans (hb.mono HBX.out.size))
                 try replace HLA := hI (HLA.out.below hb rr)
                 try replace HL2 := hI (HL2.out.below hb rr)
                 try replace HWS := hI (HWS.out.below hb rr)
                 clear hb
                 refine hK' _ _ ⟨.inr HGX.out, fun _ => ?_⟩
                 clear hK' K'
                 have HWS := hI hws
                 clear hws
                 obtain ⟨bW, hbW⟩ : ∃ bW, bW = Y1.heap.size := ⟨_, rfl⟩
                 rw [← hbW] at HWS ⊢
                 clear hbW
                 change anyT _ _ _ _ _ _ _ _ (Y1.alloc (.cells (([(some ⟨bq, 0, none⟩, 3, 3, [sA, sP, sA]), (some ⟨br + 1 + 1, 0, none⟩, 32, 32, longW)] : List Part).map Part.val).toArray 32))
                 generalize Y1.alloc (.cells (([(some ⟨bq, 0, none⟩, 3, 3, [sA, sP, sA]), (some ⟨br + 1 + 1, 0, none⟩, 32, 32, longW)] : List Part).map Part.val).toArray 32) = Y2 at *
                 (try simp only [Act.put, nY, nX])
                 refine anyT_sp 2 rfl (fun K' hK' => ?_)
                 rw [if_pos (by rfl)]
                 refine upon_law2 Y2 (.tmp 263) (.tmp 264) rfl ⟨gD, ag⟩ ⟨fD, af⟩ (by rfl) (by rfl) (HGA.out.below HBX.out rr) HLA.out ?_
                 intro Y3 hl hb hz
                 replace HGX := hI ((hb.block _ (lt_of_block HGX.out)).trans HGX.out)
                 replace HBX := hI (HBX.out.trans (hb.mono HBX.out.size))
                 try replace HLA := hI (HLA.out.below hb rr)
                 try replace HL2 := hI (HL2.out.below hb rr)
                 try replace HWS := hI (HWS.out.below hb rr)
                 clear hb
                 obtain ⟨bL, hbL⟩ : ∃ bL, bL = Y2.heap.size := ⟨_, rfl⟩
                 rw [← hbL] at hl ⊢
                 have HL2 := hI hl
                 clear hl hz hbL
                 refine hK' _ _ ⟨.inr HGX.out, fun _ => ?_⟩
                 clear hK' K'
                 (try simp only [Act.put, nY, nX])
                 refine anyT_sp 6 rfl (fun K' hK' => ?_)
                 rw [if_pos (by rfl)]
                 unfold Oper.wp
                 go_simp
                 refine (HFIN.out Y3 af bL bW HBX.out HL2.out HWS.out).mono ?_
                 rintro e Y9 ⟨A9, n9, c9, rfl, hb⟩
                 replace HGX := hI ((hb.block _ (lt_of_block HGX.out)).trans HGX.out)
                 replace HBX := hI (HBX.out.trans (hb.mono HBX.out.size))
                 try replace HLA := hI (HLA.out.below hb rr)
                 try replace HL2 := hI (HL2.out.below hb rr)
                 try replace HWS := hI (HWS.out.below hb rr)
                 clear hb
                 refine hK' _ _ ⟨.inr HGX.out, fun _ => ?_⟩
                 clear hK' K'
                 (try simp only [Act.put, nY, nX])
                 (refine anyT_sp 7 rfl (fun K' hK' => ?_); simp only [nY]; go_simp)
                 refine hK' _ _ ⟨.inr HGX.out, fun _ => ?_⟩
                 clear hK' K'
                 (try simp only [Act.put, nY, nX])
                 have hS3 := HGX.out
                 (refine' anyT_tk 8 rfl ?_; (try simp only [Act.put, nY, nX])); (refine' anyT_tk 9 rfl ?_; (try simp only [Act.put, nY, nX]))
                 (refine anyT_sp 10 rfl (fun K' hK' => ?_); simp only [nY]; go_simp)
                 refine hK' _ _ ⟨.inr HGX.out, fun _ => ?_⟩
                 clear hK' K'
                 (try simp only [Act.put, nY, nX])
                 (refine anyT_sp 11 rfl (fun K' hK' => ?_); simp only [nY]; go_simp)
                 refine hK' _ _ ⟨.inl (by kernel_rfl), fun _ => anyT_done (by kernel_rfl) ?_ _⟩
                 clear hK' K' hS3
                 go_wp2_with fail
                 go_meet
                 exact ⟨A9, n9, c9, rfl, rfl, HBX.out⟩
               ·unfold Oper.wp
                go_simp
                have hws := built_words X [(some ⟨bq, 0, none⟩, 3, 3, [sA, sP, sA]), (some ⟨br + 1 + 1, 0, none⟩, 32, 32, longW)] 32 (by simp) (fun p hp => by
                 simp only [List.mem_cons, List.not_mem_nil, or_false] at hp
                 rcases hp with rfl | rfl
                 ·exact HAPA.out.below HBX.out rr
                 ·exact HLONG.out.below HBX.out rr)
                have hb : Below X.heap.size X (X.alloc (.cells (([(some ⟨bq, 0, none⟩, 3, 3, [sA, sP, sA]), (some ⟨br + 1 + 1, 0, none⟩, 32, 32, longW)] : List Part).map Part.val).toArray 32)) := bel
                replace HGX := hI ((hb.block _ (lt_of_block HGX.out)).trans HGX.out)
                replace HBX := hI (HBX.out.trans (hb.mono HBX.out.size))
                try replace HLA := hI (HLA.out.below hb rr)
                try replace HL2 := hI (HL2.out.below hb rr)
                try replace HWS := hI (HWS.out.below hb rr)
                clear hb
                refine hK' _ _ ⟨.inr HGX.out, fun _ => ?_⟩
                clear hK' K'
                have HWS := hI hws
                clear hws
                obtain ⟨bW, hbW⟩ : ∃ bW, bW = X.heap.size := ⟨_, rfl⟩
                rw [← hbW] at HWS ⊢
                clear hbW
                change anyT _ _ _ _ _ _ _ _ (X.alloc (.cells (([(some ⟨bq, 0, none⟩, 3, 3, [sA, sP, sA]), (some ⟨br + 1 + 1, 0, none⟩, 32, 32, longW)] : List Part).map Part.val).toArray 32))
                generalize X.alloc (.cells (([(some ⟨bq, 0, none⟩, 3, 3, [sA, sP, sA]), (some ⟨br + 1 + 1, 0, none⟩, 32, 32, longW)] : List Part).map Part.val).toArray 32) = Y1 at *
                (try simp only [Act.put, nY, nX])
                refine anyT_sp 1 rfl (fun K' hK' => ?_)
                rw [if_pos (by rfl)]
                unfold Oper.wp
                go_simp
                refine (exF_c _).mono ?_
                rintro e Y2 ⟨af, rfl, hla, hb⟩
                replace HGX := hI ((hb.block _ (lt_of_block HGX.out)).trans HGX.out)
                replace HBX := hI (HBX.out.trans (hb.mono HBX.out.size))
                try replace HLA := hI (HLA.out.below hb rr)
                try replace HL2 := hI (HL2.out.below hb rr)
                try replace HWS := hI (HWS.out.below hb rr)
                clear hb
                have HLA := hI hla
                clear hla
                refine hK' _ _ ⟨.inr HGX.out, fun _ => ?_⟩
                clear hK' K'
                (try simp only [Act.put, nY, nX])
                refine anyT_sp 2 rfl (fun K' hK' => ?_)
                rw [if_pos (by rfl)]
                refine upon_law2 Y2 (.tmp 263) (.tmp 264) rfl ⟨gD, ag⟩ ⟨fD, af⟩ (by rfl) (by rfl) (HGA.out.below HBX.out rr) HLA.out ?_
                intro Y3 hl hb hz
                replace HGX := hI ((hb.block _ (lt_of_block HGX.out)).trans HGX.out)
                replace HBX := hI (HBX.out.trans (hb.mono HBX.out.size))
                try replace HLA := hI (HLA.out.below hb rr)
                try replace HL2 := hI (HL2.out.below hb rr)
                try replace HWS := hI (HWS.out.below hb rr)
                clear hb
                obtain ⟨bL, hbL⟩ : ∃ bL, bL = Y2.heap.size := ⟨_, rfl⟩
                rw [← hbL] at hl ⊢
                have HL2 := hI hl
                clear hl hz hbL
                refine hK' _ _ ⟨.inr HGX.out, fun _ => ?_⟩
                clear hK' K'
                (try simp only [Act.put, nY, nX])
                refine anyT_sp 6 rfl (fun K' hK' => ?_)
                rw [if_pos (by rfl)]
                unfold Oper.wp
                go_simp
                refine (HFIN.out Y3 af bL bW HBX.out HL2.out HWS.out).mono ?_
                rintro e Y9 ⟨A9, n9, c9, rfl, hb⟩
                replace HGX := hI ((hb.block _ (lt_of_block HGX.out)).trans HGX.out)
                replace HBX := hI (HBX.out.trans (hb.mono HBX.out.size))
                try replace HLA := hI (HLA.out.below hb rr)
                try replace HL2 := hI (HL2.out.below hb rr)
                try replace HWS := hI (HWS.out.below hb rr)
                clear hb
                refine hK' _ _ ⟨.inr HGX.out, fun _ => ?_⟩
                clear hK' K'
                (try simp only [Act.put, nY, nX])
                (refine anyT_sp 7 rfl (fun K' hK' => ?_); simp only [nY]; go_simp)
                refine hK' _ _ ⟨.inr HGX.out, fun _ => ?_⟩
                clear hK' K'
                (try simp only [Act.put, nY, nX])
                have hS3 := HGX.out
                (refine' anyT_tk 8 rfl ?_; (try simp only [Act.put, nY, nX])); (refine' anyT_tk 9 rfl ?_; (try simp only [Act.put, nY, nX]))
                (refine anyT_sp 10 rfl (fun K' hK' => ?_); simp only [nY]; go_simp)
                refine hK' _ _ ⟨.inr HGX.out, fun _ => ?_⟩
                clear hK' K'
                (try simp only [Act.put, nY, nX])
                (refine anyT_sp 11 rfl (fun K' hK' => ?_); simp only [nY]; go_simp)
                refine hK' _ _ ⟨.inl (by kernel_rfl), fun _ => anyT_done (by kernel_rfl) ?_ _⟩
                clear hK' K' hS3
                go_wp2_with fail
                go_meet
                exact ⟨A9, n9, c9, rfl, rfl, HBX.out⟩
              case rest =>
               obtain ⟨A35, n35, c35, rfl, rfl, hb⟩ := hcut
               replace HB0 := hI (HB0.out.trans (hb.mono HB0.out.size))
               replace HT := hI (HT.out.below hb rr)
               try replace HG := hI ((hb.block _ (lt_of_block HG.out)).trans HG.out)
               try replace HGA := hI (HGA.out.below hb rr)
               try replace HAPA := hI (HAPA.out.below hb rr)
               try replace HPAP := hI (HPAP.out.below hb rr)
               try replace HPA := hI (HPA.out.below hb rr)
               try replace HBAD := hI (HBAD.out.below hb rr)
               try replace HLONG := hI (HLONG.out.below hb rr)
               try replace HLAWS := hI (HLAWS.out.below hb rr)
               try replace HOVER := hI (HOVER.out.below hb rr)
               try replace HVF := hI (HVF.out.below hb rr)
               try replace HLA := hI (HLA.out.below hb rr)
               try replace HLB := hI (HLB.out.below hb rr)
               try replace HLC := hI (HLC.out.below hb rr)
               try replace HX := hI (HX.out.below hb rr)
               try replace HY := hI (HY.out.below hb rr)
               try replace HZ := hI (HZ.out.below hb rr)
               try replace HU := hI (HU.out.below hb rr)
               try replace HV := hI (HV.out.below hb rr)
               try replace HP := hI (HP.out.below hb rr)
               try replace HQ := hI (HQ.out.below hb rr)
               try replace HI1 := hI (HI1.out.below hb rr)
               try replace HI2 := hI (HI2.out.below hb rr)
               try clear hb
               obtain ⟨LZ, hLZ⟩ : ∃ LZ, LZ = ((List.replicate 257 wrdZ).map Part.val).toArray := ⟨_, rfl⟩
               have hmk : ∀ W : World, (Instr.makeSlice 46 (.int .i64 257) (.int .i64 257)).run Tryz.prog W = _ := fun W => run_mk_wordsZ 257 (by decide) W
               have hmw := mk_wordsZ wc 257 (by decide)
               rw [← hLZ] at hmw hmk
               clear hLZ
               have HMW := hI hmw
               have hb : Below wc.heap.size wc (wc.alloc (.cells LZ 32)) := bel
               clear hmw
               go_wp2_with fail
               clear hmk
               refine (pairs_c _ 2 2 vf _ 257 257 (List.replicate 257 []) _ (HVF.out.below hb rr) HMW.out (HT.out.below hb rr)).mono ?_
               rw [HVD.out]
               obtain ⟨⟨e37, y37⟩, hr⟩ : ∃ r, r = pairsM [vD, fD] (List.replicate 257 []) := ⟨_, rfl⟩
               rw [← hr]
               obtain rfl : e37 = 12 := (congrArg Prod.fst hr).trans kn_u
               clear hr HMW
               rintro e X28 ⟨A37, n37, c37, ss37, rfl, hss, hp, hb9⟩
               replace hb := hb.trans (hb9.mono hb.size)
               clear hb9 hss hp
               replace HB0 := hI (HB0.out.trans (hb.mono HB0.out.size))
               replace HT := hI (HT.out.below hb rr)
               try replace HG := hI ((hb.block _ (lt_of_block HG.out)).trans HG.out)
               try replace HGA := hI (HGA.out.below hb rr)
               try replace HAPA := hI (HAPA.out.below hb rr)
               try replace HPAP := hI (HPAP.out.below hb rr)
               try replace HPA := hI (HPA.out.below hb rr)
               try replace HBAD := hI (HBAD.out.below hb rr)
               try replace HLONG := hI (HLONG.out.below hb rr)
               try replace HLAWS := hI (HLAWS.out.below hb rr)
               try replace HOVER := hI (HOVER.out.below hb rr)
               try replace HVF := hI (HVF.out.below hb rr)
               try replace HLA := hI (HLA.out.below hb rr)
               try replace HLB := hI (HLB.out.below hb rr)
               try replace HLC := hI (HLC.out.below hb rr)
               try replace HX := hI (HX.out.below hb rr)
               try replace HY := hI (HY.out.below hb rr)
               try replace HZ := hI (HZ.out.below hb rr)
               try replace HU := hI (HU.out.below hb rr)
               try replace HV := hI (HV.out.below hb rr)
               try replace HP := hI (HP.out.below hb rr)
               try replace HQ := hI (HQ.out.below hb rr)
               try replace HI1 := hI (HI1.out.below hb rr)
               try replace HI2 := hI (HI2.out.below hb rr)
               try clear hb
               go_wp2_with fail
               refine (exF_c _).mono ?_
               rintro e X29 ⟨af3, rfl, hl_, hb⟩
               replace HB0 := hI (HB0.out.trans (hb.mono HB0.out.size))
               replace HT := hI (HT.out.below hb rr)
               try replace HG := hI ((hb.block _ (lt_of_block HG.out)).trans HG.out)
               try replace HGA := hI (HGA.out.below hb rr)
               try replace HAPA := hI (HAPA.out.below hb rr)
               try replace HPAP := hI (HPAP.out.below hb rr)
               try replace HPA := hI (HPA.out.below hb rr)
               try replace HBAD := hI (HBAD.out.below hb rr)
               try replace HLONG := hI (HLONG.out.below hb rr)
               try replace HLAWS := hI (HLAWS.out.below hb rr)
               try replace HOVER := hI (HOVER.out.below hb rr)
               try replace HVF := hI (HVF.out.below hb rr)
               try replace HLA := hI (HLA.out.below hb rr)
               try replace HLB := hI (HLB.out.below hb rr)
               try replace HLC := hI (HLC.out.below hb rr)
               try replace HX := hI (HX.out.below hb rr)
               try replace HY := hI (HY.out.below hb rr)
               try replace HZ := hI (HZ.out.below hb rr)
               try replace HU := hI (HU.out.below hb rr)
               try replace HV := hI (HV.out.below hb rr)
               try replace HP := hI (HP.out.below hb rr)
               try replace HQ := hI (HQ.out.below hb rr)
               try replace HI1 := hI (HI1.out.below hb rr)
               try replace HI2 := hI (HI2.out.below hb rr)
               try clear hb
               have HLA := hI hl_; clear hl_
               go_wp2_with (refine law1A rfl (.tmp 279) rfl ⟨fD, af3⟩ rfl HLA.out ?hk1)
               case hk1 =>
                intro X30 hl2 hb hzz _
                clear hzz
                replace HB0 := hI (HB0.out.trans (hb.mono HB0.out.size))
                replace HT := hI (HT.out.below hb rr)
                try replace HG := hI ((hb.block _ (lt_of_block HG.out)).trans HG.out)
                try replace HGA := hI (HGA.out.below hb rr)
                try replace HAPA := hI (HAPA.out.below hb rr)
                try replace HPAP := hI (HPAP.out.below hb rr)
                try replace HPA := hI (HPA.out.below hb rr)
                try replace HBAD := hI (HBAD.out.below hb rr)
                try replace HLONG := hI (HLONG.out.below hb rr)
                try replace HLAWS := hI (HLAWS.out.below hb rr)
                try replace HOVER := hI (HOVER.out.below hb rr)
                try replace HVF := hI (HVF.out.below hb rr)
                try replace HLA := hI (HLA.out.below hb rr)
                try replace HLB := hI (HLB.out.below hb rr)
                try replace HLC := hI (HLC.out.below hb rr)
                try replace HX := hI (HX.out.below hb rr)
                try replace HY := hI (HY.out.below hb rr)
                try replace HZ := hI (HZ.out.below hb rr)
                try replace HU := hI (HU.out.below hb rr)
                try replace HV := hI (HV.out.below hb rr)
                try replace HP := hI (HP.out.below hb rr)
                try replace HQ := hI (HQ.out.below hb rr)
                try replace HI1 := hI (HI1.out.below hb rr)
                try replace HI2 := hI (HI2.out.below hb rr)
                try clear hb
                have HL1 := hI hl2
                clear hl2 HLA
                have hws := built_words X30 [(some ⟨bq, 0, none⟩, 3, 3, [sA, sP, sA]), (some ⟨bp, 0, none⟩, 3, 3, [sP, sA, sP])] 32 (by simp) (fun p hp => by
                 simp only [List.mem_cons, List.not_mem_nil, or_false] at hp
                 rcases hp with rfl | rfl
                 ·exact HAPA.out
                 ·exact HPAP.out)
                have hb : Below X30.heap.size X30 (X30.alloc (.cells (([(some ⟨bq, 0, none⟩, 3, 3, [sA, sP, sA]), (some ⟨bp, 0, none⟩, 3, 3, [sP, sA, sP])] : List Part).map Part.val).toArray 32)) := bel
                have HL1' := hI (HL1.out.below hb rr)
                have HWS := hI hws
                clear hws
                go_wp2_with fail
                refine (pairs_c _ 1 1 [⟨fD, af3⟩] _ 2 2 [[sA, sP, sA], [sP, sA, sP]] _ HL1'.out HWS.out (HT.out.below hb rr)).mono ?_
                rw [show pairsM (lawsD [⟨fD, af3⟩]) [[sA, sP, sA], [sP, sA, sP]] = (0, [([sA, sP, sA], [sA, sP]), ([sP, sA, sP], [sP, sA, sP])]) from kn_c]
                rintro e X31 ⟨A39, n39, c39, ss39, rfl, hss, hp, hb9⟩
                clear HL1 HL1' HWS
                replace hb := hb.trans (hb9.mono hb.size)
                clear hb9
                replace HB0 := hI (HB0.out.trans (hb.mono HB0.out.size))
                replace HT := hI (HT.out.below hb rr)
                try replace HG := hI ((hb.block _ (lt_of_block HG.out)).trans HG.out)
                try replace HGA := hI (HGA.out.below hb rr)
                try replace HAPA := hI (HAPA.out.below hb rr)
                try replace HPAP := hI (HPAP.out.below hb rr)
                try replace HPA := hI (HPA.out.below hb rr)
                try replace HBAD := hI (HBAD.out.below hb rr)
                try replace HLONG := hI (HLONG.out.below hb rr)
                try replace HLAWS := hI (HLAWS.out.below hb rr)
                try replace HOVER := hI (HOVER.out.below hb rr)
                try replace HVF := hI (HVF.out.below hb rr)
                try replace HLA := hI (HLA.out.below hb rr)
                try replace HLB := hI (HLB.out.below hb rr)
                try replace HLC := hI (HLC.out.below hb rr)
                try replace HX := hI (HX.out.below hb rr)
                try replace HY := hI (HY.out.below hb rr)
                try replace HZ := hI (HZ.out.below hb rr)
                try replace HU := hI (HU.out.below hb rr)
                try replace HV := hI (HV.out.below hb rr)
                try replace HP := hI (HP.out.below hb rr)
                try replace HQ := hI (HQ.out.below hb rr)
                try replace HI1 := hI (HI1.out.below hb rr)
                try replace HI2 := hI (HI2.out.below hb rr)
                try clear hb
                have hl39 : ss39.length = 2 := by have := congrArg List.length hss; simpa using this
                obtain ⟨s0, s1, rfl⟩ : ∃ s0 s1, ss39 = [s0, s1] := by
                 clear hss hp
                 match ss39, hl39 with
                 | [a, b], _ => exact ⟨a, b, rfl⟩
                clear hl39
                have hsq : s1.q.word = [sP, sA, sP] := by
                 have h := congrArg (fun l => (l[1]?).map Prod.snd) hss
                 simpa [PairR.data] using h
                obtain rfl : n39 = 2 := hp.1.2.symm
                have HP9 := hI hp; have HSQ := hI hsq
                clear hss hp hsq
                go_wp2_with fail
                refine (exP_c _).mono ?_
                rintro e X32 ⟨rfl, hb⟩
                replace HP9 := hI (HP9.out.below hb rr)
                replace HB0 := hI (HB0.out.trans (hb.mono HB0.out.size))
                replace HT := hI (HT.out.below hb rr)
                try replace HG := hI ((hb.block _ (lt_of_block HG.out)).trans HG.out)
                try replace HGA := hI (HGA.out.below hb rr)
                try replace HAPA := hI (HAPA.out.below hb rr)
                try replace HPAP := hI (HPAP.out.below hb rr)
                try replace HPA := hI (HPA.out.below hb rr)
                try replace HBAD := hI (HBAD.out.below hb rr)
                try replace HLONG := hI (HLONG.out.below hb rr)
                try replace HLAWS := hI (HLAWS.out.below hb rr)
                try replace HOVER := hI (HOVER.out.below hb rr)
                try replace HVF := hI (HVF.out.below hb rr)
                try replace HLA := hI (HLA.out.below hb rr)
                try replace HLB := hI (HLB.out.below hb rr)
                try replace HLC := hI (HLC.out.below hb rr)
                try replace HX := hI (HX.out.below hb rr)
                try replace HY := hI (HY.out.below hb rr)
                try replace HZ := hI (HZ.out.below hb rr)
                try replace HU := hI (HU.out.below hb rr)
                try replace HV := hI (HV.out.below hb rr)
                try replace HP := hI (HP.out.below hb rr)
                try replace HQ := hI (HQ.out.below hb rr)
                try replace HI1 := hI (HI1.out.below hb rr)
                try replace HI2 := hI (HI2.out.below hb rr)
                try clear hb
                have hone := built_word X32 [sP] 24 (by simp)
                have hb1 : Below X32.heap.size X32 (X32.alloc (.cells (wcells [sP]).toArray 24)) := bel
                have HONE := hI hone
                have HLO1 := hI (HLONG.out.below hb1 rr)
                have HB1 := hI hb1
                clear hone hb1
                go_wp2_with (at_builtin; refine append_full rfl (.tmp 291) (.tmp 293) rfl (some ⟨br + 1 + 1, 0, none⟩) 32 longW rfl HLO1.out (by omega) (some ⟨X32.heap.size, 0, none⟩) 1 1 [sP] rfl HONE.out (by omega) (by omega) ?hap)
                case hap =>
                 intro c33 X33 hw33 hb
                 replace hb := HB1.out.trans (hb.mono (by omega))
                 clear HONE HLO1 HB1
                 replace HP9 := hI (HP9.out.below hb rr)
                 replace HB0 := hI (HB0.out.trans (hb.mono HB0.out.size))
                 replace HT := hI (HT.out.below hb rr)
                 try replace HG := hI ((hb.block _ (lt_of_block HG.out)).trans HG.out)
                 try replace HGA := hI (HGA.out.below hb rr)
                 try replace HAPA := hI (HAPA.out.below hb rr)
                 try replace HPAP := hI (HPAP.out.below hb rr)
                 try replace HPA := hI (HPA.out.below hb rr)
                 try replace HBAD := hI (HBAD.out.below hb rr)
                 try replace HLONG := hI (HLONG.out.below hb rr)
                 try replace HLAWS := hI (HLAWS.out.below hb rr)
                 try replace HOVER := hI (HOVER.out.below hb rr)
                 try replace HVF := hI (HVF.out.below hb rr)
                 try replace HLA := hI (HLA.out.below hb rr)
                 try replace HLB := hI (HLB.out.below hb rr)
                 try replace HLC := hI (HLC.out.below hb rr)
                 try replace HX := hI (HX.out.below hb rr)
                 try replace HY := hI (HY.out.below hb rr)
                 try replace HZ := hI (HZ.out.below hb rr)
                 try replace HU := hI (HU.out.below hb rr)
                 try replace HV := hI (HV.out.below hb rr)
                 try replace HP := hI (HP.out.below hb rr)
                 try replace HQ := hI (HQ.out.below hb rr)
                 try replace HI1 := hI (HI1.out.below hb rr)
                 try replace HI2 := hI (HI2.out.below hb rr)
                 try clear hb
                 obtain ⟨b33, hb33⟩ : ∃ b33, b33 = X32.heap.size + 1 := ⟨_, rfl⟩
                 rw [← hb33] at hw33 ⊢
                 clear hb33
                 have hws := built_words X33 [(some ⟨bq, 0, none⟩, 3, 3, [sA, sP, sA]), (some ⟨br + 1, 0, none⟩, 1, 1, badW), (some ⟨b33, 0, none⟩, 33, c33, longW ++ [sP])] 32 (by simp) (fun p hp => by
                  simp only [List.mem_cons, List.not_mem_nil, or_false] at hp
                  rcases hp with rfl | rfl | rfl
                  ·exact HAPA.out
                  ·exact HBAD.out
                  ·exact hw33)
                 have hb : Below X33.heap.size X33 (X33.alloc (.cells (([(some ⟨bq, 0, none⟩, 3, 3, [sA, sP, sA]), (some ⟨br + 1, 0, none⟩, 1, 1, badW), (some ⟨b33, 0, none⟩, 33, c33, longW ++ [sP])] : List Part).map Part.val).toArray 32)) := bel
                 have HWS := hI hws
                 clear hws hw33
                 go_wp2_with fail
                 refine (used_c _ 2 2 vf _ 3 3 [[sA, sP, sA], badW, longW ++ [sP]] _ (HVF.out.below hb rr) HWS.out (HT.out.below hb rr)).mono ?_
                 rw [HVD.out]
                 obtain ⟨⟨e41, y41⟩, hr⟩ : ∃ r, r = usedM [vD, fD] [[sA, sP, sA], badW, longW ++ [sP]] := ⟨_, rfl⟩
                 rw [← hr]
                 obtain rfl : e41 = 14 := (congrArg Prod.fst hr).trans kn_d
                 clear hr HWS
                 rintro e X34 ⟨A41, n41, c41, rfl, hi, hb9⟩
                 replace hb := hb.trans (hb9.mono hb.size)
                 clear hb9 hi
                 replace HP9 := hI (HP9.out.below hb rr)
                 replace HB0 := hI (HB0.out.trans (hb.mono HB0.out.size))
                 replace HT := hI (HT.out.below hb rr)
                 try replace HG := hI ((hb.block _ (lt_of_block HG.out)).trans HG.out)
                 try replace HGA := hI (HGA.out.below hb rr)
                 try replace HAPA := hI (HAPA.out.below hb rr)
                 try replace HPAP := hI (HPAP.out.below hb rr)
                 try replace HPA := hI (HPA.out.below hb rr)
                 try replace HBAD := hI (HBAD.out.below hb rr)
                 try replace HLONG := hI (HLONG.out.below hb rr)
                 try replace HLAWS := hI (HLAWS.out.below hb rr)
                 try replace HOVER := hI (HOVER.out.below hb rr)
                 try replace HVF := hI (HVF.out.below hb rr)
                 try replace HLA := hI (HLA.out.below hb rr)
                 try replace HLB := hI (HLB.out.below hb rr)
                 try replace HLC := hI (HLC.out.below hb rr)
                 try replace HX := hI (HX.out.below hb rr)
                 try replace HY := hI (HY.out.below hb rr)
                 try replace HZ := hI (HZ.out.below hb rr)
                 try replace HU := hI (HU.out.below hb rr)
                 try replace HV := hI (HV.out.below hb rr)
                 try replace HP := hI (HP.out.below hb rr)
                 try replace HQ := hI (HQ.out.below hb rr)
                 try replace HI1 := hI (HI1.out.below hb rr)
                 try replace HI2 := hI (HI2.out.below hb rr)
                 try clear hb
                 have hbi := built_ints X34 [0, 1] 3 (by simp)
                 have hb : Below X34.heap.size X34 (X34.alloc (.cells (([0, 1] : List Int).map (Value.int .i64)).toArray 3)) := bel
                 have HBI := hI hbi
                 clear hbi
                 go_wp2_with fail
                 refine (numbers_c A31 _ n31 2 c31 2 [0, 1] [0, 1] _ (HI1.out.below hb rr) HBI.out).mono ?_
                 rintro e X35 ⟨rfl, hb9⟩
                 replace hb := hb.trans (hb9.mono hb.size)
                 clear hb9 HBI
                 rw [show decide (([0, 1] : List Int) = [0, 1]) = true from decide_eq_true rfl]
                 replace HP9 := hI (HP9.out.below hb rr)
                 replace HB0 := hI (HB0.out.trans (hb.mono HB0.out.size))
                 replace HT := hI (HT.out.below hb rr)
                 try replace HG := hI ((hb.block _ (lt_of_block HG.out)).trans HG.out)
                 try replace HGA := hI (HGA.out.below hb rr)
                 try replace HAPA := hI (HAPA.out.below hb rr)
                 try replace HPAP := hI (HPAP.out.below hb rr)
                 try replace HPA := hI (HPA.out.below hb rr)
                 try replace HBAD := hI (HBAD.out.below hb rr)
                 try replace HLONG := hI (HLONG.out.below hb rr)
                 try replace HLAWS := hI (HLAWS.out.below hb rr)
                 try replace HOVER := hI (HOVER.out.below hb rr)
                 try replace HVF := hI (HVF.out.below hb rr)
                 try replace HLA := hI (HLA.out.below hb rr)
                 try replace HLB := hI (HLB.out.below hb rr)
                 try replace HLC := hI (HLC.out.below hb rr)
                 try replace HX := hI (HX.out.below hb rr)
                 try replace HY := hI (HY.out.below hb rr)
                 try replace HZ := hI (HZ.out.below hb rr)
                 try replace HU := hI (HU.out.below hb rr)
                 try replace HV := hI (HV.out.below hb rr)
                 try replace HP := hI (HP.out.below hb rr)
                 try replace HQ := hI (HQ.out.below hb rr)
                 try replace HI1 := hI (HI1.out.below hb rr)
                 try replace HI2 := hI (HI2.out.below hb rr)
                 try clear hb
                 have hbi := built_ints X35 [0, 1] 3 (by simp)
                 have hb : Below X35.heap.size X35 (X35.alloc (.cells (([0, 1] : List Int).map (Value.int .i64)).toArray 3)) := bel
                 have HBI := hI hbi
                 clear hbi
                 go_wp2_with fail
                 refine (numbers_c A33 _ n33 2 c33i 2 [0, 1] [0, 1] _ (HI2.out.below hb rr) HBI.out).mono ?_
                 rintro e X36 ⟨rfl, hb9⟩
                 replace hb := hb.trans (hb9.mono hb.size)
                 clear hb9 HBI
                 rw [show decide (([0, 1] : List Int) = [0, 1]) = true from decide_eq_true rfl]
                 replace HP9 := hI (HP9.out.below hb rr)
                 replace HB0 := hI (HB0.out.trans (hb.mono HB0.out.size))
                 replace HT := hI (HT.out.below hb rr)
                 try replace HG := hI ((hb.block _ (lt_of_block HG.out)).trans HG.out)
                 try replace HGA := hI (HGA.out.below hb rr)
                 try replace HAPA := hI (HAPA.out.below hb rr)
                 try replace HPAP := hI (HPAP.out.below hb rr)
                 try replace HPA := hI (HPA.out.below hb rr)
                 try replace HBAD := hI (HBAD.out.below hb rr)
                 try replace HLONG := hI (HLONG.out.below hb rr)
                 try replace HLAWS := hI (HLAWS.out.below hb rr)
                 try replace HOVER := hI (HOVER.out.below hb rr)
                 try replace HVF := hI (HVF.out.below hb rr)
                 try replace HLA := hI (HLA.out.below hb rr)
                 try replace HLB := hI (HLB.out.below hb rr)
                 try replace HLC := hI (HLC.out.below hb rr)
                 try replace HX := hI (HX.out.below hb rr)
                 try replace HY := hI (HY.out.below hb rr)
                 try replace HZ := hI (HZ.out.below hb rr)
                 try replace HU := hI (HU.out.below hb rr)
                 try replace HV := hI (HV.out.below hb rr)
                 try replace HP := hI (HP.out.below hb rr)
                 try replace HQ := hI (HQ.out.below hb rr)
                 try replace HI1 := hI (HI1.out.below hb rr)
                 try replace HI2 := hI (HI2.out.below hb rr)
                 try clear hb
                 obtain ⟨b39, off39, rfl, hb39, hc39⟩ := HP9.out.1.at_ PairR.len (by decide) (k := 1) (x := s1) rfl
                 have hwq := (HP9.out.2 s1 (by simp)).2
                 obtain ⟨pp1, ⟨Aq, nq, cq, yq⟩⟩ := s1
                 have hq1 : X36.cell? ⟨b39, off39 + 3, none⟩ = some (.slice Aq nq cq) := by
                  have h := hc39 1 _ rfl
                  rw [show off39 + 3 = off39 + 1 * 2 + 1 by omega]; exact h
                 have hq2 : X36.cell? ⟨b39, off39 + 2 + 1, none⟩ = some (.slice Aq nq cq) := hq1
                 have hyq : yq = [sP, sA, sP] := HSQ.out
                 subst hyq
                 have HWQ := hI hwq
                 clear hc39 hwq HP9 HSQ
                 go_wp2_with fail
                 refine (wEqual_c Aq _ nq 3 cq 3 [sP, sA, sP] [sP, sA, sP] X36 HWQ.out HPAP.out).mono ?_
                 rintro e X37 ⟨rfl, hb⟩
                 rw [show decide (([sP, sA, sP] : List Snd) = [sP, sA, sP]) = true from decide_eq_true rfl]
                 clear hq1 hq2 HWQ
                 replace HB0 := hI (HB0.out.trans (hb.mono HB0.out.size))
                 replace HT := hI (HT.out.below hb rr)
                 try replace HG := hI ((hb.block _ (lt_of_block HG.out)).trans HG.out)
                 try replace HGA := hI (HGA.out.below hb rr)
                 try replace HAPA := hI (HAPA.out.below hb rr)
                 try replace HPAP := hI (HPAP.out.below hb rr)
                 try replace HPA := hI (HPA.out.below hb rr)
                 try replace HBAD := hI (HBAD.out.below hb rr)
                 try replace HLONG := hI (HLONG.out.below hb rr)
                 try replace HLAWS := hI (HLAWS.out.below hb rr)
                 try replace HOVER := hI (HOVER.out.below hb rr)
                 try replace HVF := hI (HVF.out.below hb rr)
                 try replace HLA := hI (HLA.out.below hb rr)
                 try replace HLB := hI (HLB.out.below hb rr)
                 try replace HLC := hI (HLC.out.below hb rr)
                 try replace HX := hI (HX.out.below hb rr)
                 try replace HY := hI (HY.out.below hb rr)
                 try replace HZ := hI (HZ.out.below hb rr)
                 try replace HU := hI (HU.out.below hb rr)
                 try replace HV := hI (HV.out.below hb rr)
                 try replace HP := hI (HP.out.below hb rr)
                 try replace HQ := hI (HQ.out.below hb rr)
                 try replace HI1 := hI (HI1.out.below hb rr)
                 try replace HI2 := hI (HI2.out.below hb rr)
                 try clear hb
                 go_wp2_with (first | (refine load_law rfl (.tmp 1) rfl bg gD ag rfl HG.out ?_) | (refine law1A rfl (.tmp 348) rfl ⟨gD, ag⟩ rfl HGA.out ?hj1))
                 case hj1 =>
                  intro X38 hl2 hb hzz _
                  clear hzz
                  replace HB0 := hI (HB0.out.trans (hb.mono HB0.out.size))
                  replace HT := hI (HT.out.below hb rr)
                  try replace HG := hI ((hb.block _ (lt_of_block HG.out)).trans HG.out)
                  try replace HGA := hI (HGA.out.below hb rr)
                  try replace HAPA := hI (HAPA.out.below hb rr)
                  try replace HPAP := hI (HPAP.out.below hb rr)
                  try replace HPA := hI (HPA.out.below hb rr)
                  try replace HBAD := hI (HBAD.out.below hb rr)
                  try replace HLONG := hI (HLONG.out.below hb rr)
                  try replace HLAWS := hI (HLAWS.out.below hb rr)
                  try replace HOVER := hI (HOVER.out.below hb rr)
                  try replace HVF := hI (HVF.out.below hb rr)
                  try replace HLA := hI (HLA.out.below hb rr)
                  try replace HLB := hI (HLB.out.below hb rr)
                  try replace HLC := hI (HLC.out.below hb rr)
                  try replace HX := hI (HX.out.below hb rr)
                  try replace HY := hI (HY.out.below hb rr)
                  try replace HZ := hI (HZ.out.below hb rr)
                  try replace HU := hI (HU.out.below hb rr)
                  try replace HV := hI (HV.out.below hb rr)
                  try replace HP := hI (HP.out.below hb rr)
                  try replace HQ := hI (HQ.out.below hb rr)
                  try replace HI1 := hI (HI1.out.below hb rr)
                  try replace HI2 := hI (HI2.out.below hb rr)
                  try clear hb
                  have HL1 := hI hl2
                  clear hl2
                  go_wp2_with (refine law1A rfl (.tmp 350) rfl zlR rfl (zero_at _) ?hj2)
                  case hj2 =>
                   intro X39 hl2 hb hzz _
                   clear hzz
                   replace HL1 := hI (HL1.out.below hb rr)
                   replace HB0 := hI (HB0.out.trans (hb.mono HB0.out.size))
                   replace HT := hI (HT.out.below hb rr)
                   try replace HG := hI ((hb.block _ (lt_of_block HG.out)).trans HG.out)
                   try replace HGA := hI (HGA.out.below hb rr)
                   try replace HAPA := hI (HAPA.out.below hb rr)
                   try replace HPAP := hI (HPAP.out.below hb rr)
                   try replace HPA := hI (HPA.out.below hb rr)
                   try replace HBAD := hI (HBAD.out.below hb rr)
                   try replace HLONG := hI (HLONG.out.below hb rr)
                   try replace HLAWS := hI (HLAWS.out.below hb rr)
                   try replace HOVER := hI (HOVER.out.below hb rr)
                   try replace HVF := hI (HVF.out.below hb rr)
                   try replace HLA := hI (HLA.out.below hb rr)
                   try replace HLB := hI (HLB.out.below hb rr)
                   try replace HLC := hI (HLC.out.below hb rr)
                   try replace HX := hI (HX.out.below hb rr)
                   try replace HY := hI (HY.out.below hb rr)
                   try replace HZ := hI (HZ.out.below hb rr)
                   try replace HU := hI (HU.out.below hb rr)
                   try replace HV := hI (HV.out.below hb rr)
                   try replace HP := hI (HP.out.below hb rr)
                   try replace HQ := hI (HQ.out.below hb rr)
                   try replace HI1 := hI (HI1.out.below hb rr)
                   try replace HI2 := hI (HI2.out.below hb rr)
                   try clear hb
                   have HL2 := hI hl2
                   clear hl2
                   go_wp2_with fail
                   refine (split_c _ 1 1 [⟨gD, ag⟩] _ 1 1 [zlR] _ 1 1 badW X39 HL1.out HL2.out HBAD.out HT.out).mono ?_
                   rw [show splitM (lawsD [⟨gD, ag⟩]) (lawsD [zlR]) badW = (0, false, 17) from kn_aa]
                   rintro e X40 ⟨rfl, hb⟩
                   clear HL1 HL2
                   replace HB0 := hI (HB0.out.trans (hb.mono HB0.out.size))
                   replace HT := hI (HT.out.below hb rr)
                   try replace HG := hI ((hb.block _ (lt_of_block HG.out)).trans HG.out)
                   try replace HGA := hI (HGA.out.below hb rr)
                   try replace HAPA := hI (HAPA.out.below hb rr)
                   try replace HPAP := hI (HPAP.out.below hb rr)
                   try replace HPA := hI (HPA.out.below hb rr)
                   try replace HBAD := hI (HBAD.out.below hb rr)
                   try replace HLONG := hI (HLONG.out.below hb rr)
                   try replace HLAWS := hI (HLAWS.out.below hb rr)
                   try replace HOVER := hI (HOVER.out.below hb rr)
                   try replace HVF := hI (HVF.out.below hb rr)
                   try replace HLA := hI (HLA.out.below hb rr)
                   try replace HLB := hI (HLB.out.below hb rr)
                   try replace HLC := hI (HLC.out.below hb rr)
                   try replace HX := hI (HX.out.below hb rr)
                   try replace HY := hI (HY.out.below hb rr)
                   try replace HZ := hI (HZ.out.below hb rr)
                   try replace HU := hI (HU.out.below hb rr)
                   try replace HV := hI (HV.out.below hb rr)
                   try replace HP := hI (HP.out.below hb rr)
                   try replace HQ := hI (HQ.out.below hb rr)
                   try replace HI1 := hI (HI1.out.below hb rr)
                   try replace HI2 := hI (HI2.out.below hb rr)
                   try clear hb
                   go_wp2_with (first | (refine load_law rfl (.tmp 1) rfl bg gD ag rfl HG.out ?_) | (refine law1A rfl (.tmp 358) rfl ⟨gD, ag⟩ rfl HGA.out ?hj3))
                   case hj3 =>
                    intro X41 hl2 hb hzz _
                    clear hzz
                    replace HB0 := hI (HB0.out.trans (hb.mono HB0.out.size))
                    replace HT := hI (HT.out.below hb rr)
                    try replace HG := hI ((hb.block _ (lt_of_block HG.out)).trans HG.out)
                    try replace HGA := hI (HGA.out.below hb rr)
                    try replace HAPA := hI (HAPA.out.below hb rr)
                    try replace HPAP := hI (HPAP.out.below hb rr)
                    try replace HPA := hI (HPA.out.below hb rr)
                    try replace HBAD := hI (HBAD.out.below hb rr)
                    try replace HLONG := hI (HLONG.out.below hb rr)
                    try replace HLAWS := hI (HLAWS.out.below hb rr)
                    try replace HOVER := hI (HOVER.out.below hb rr)
                    try replace HVF := hI (HVF.out.below hb rr)
                    try replace HLA := hI (HLA.out.below hb rr)
                    try replace HLB := hI (HLB.out.below hb rr)
                    try replace HLC := hI (HLC.out.below hb rr)
                    try replace HX := hI (HX.out.below hb rr)
                    try replace HY := hI (HY.out.below hb rr)
                    try replace HZ := hI (HZ.out.below hb rr)
                    try replace HU := hI (HU.out.below hb rr)
                    try replace HV := hI (HV.out.below hb rr)
                    try replace HP := hI (HP.out.below hb rr)
                    try replace HQ := hI (HQ.out.below hb rr)
                    try replace HI1 := hI (HI1.out.below hb rr)
                    try replace HI2 := hI (HI2.out.below hb rr)
                    try clear hb
                    have HL1 := hI hl2
                    clear hl2
                    go_wp2_with fail
                    refine (split_c _ 1 1 [⟨gD, ag⟩] none 0 0 [] _ 32 32 longW X41 HL1.out ⟨⟨Cells.nil _ _, rfl⟩, fun x hx => by simp at hx⟩ HLONG.out HT.out).mono ?_
                    rw [show splitM (lawsD [⟨gD, ag⟩]) (lawsD []) longW = (0, false, 11) from kn_bb]
                    rintro e X42 ⟨rfl, hb⟩
                    clear HL1
                    replace HB0 := hI (HB0.out.trans (hb.mono HB0.out.size))
                    replace HT := hI (HT.out.below hb rr)
                    try replace HG := hI ((hb.block _ (lt_of_block HG.out)).trans HG.out)
                    try replace HGA := hI (HGA.out.below hb rr)
                    try replace HAPA := hI (HAPA.out.below hb rr)
                    try replace HPAP := hI (HPAP.out.below hb rr)
                    try replace HPA := hI (HPA.out.below hb rr)
                    try replace HBAD := hI (HBAD.out.below hb rr)
                    try replace HLONG := hI (HLONG.out.below hb rr)
                    try replace HLAWS := hI (HLAWS.out.below hb rr)
                    try replace HOVER := hI (HOVER.out.below hb rr)
                    try replace HVF := hI (HVF.out.below hb rr)
                    try replace HLA := hI (HLA.out.below hb rr)
                    try replace HLB := hI (HLB.out.below hb rr)
                    try replace HLC := hI (HLC.out.below hb rr)
                    try replace HX := hI (HX.out.below hb rr)
                    try replace HY := hI (HY.out.below hb rr)
                    try replace HZ := hI (HZ.out.below hb rr)
                    try replace HU := hI (HU.out.below hb rr)
                    try replace HV := hI (HV.out.below hb rr)
                    try replace HP := hI (HP.out.below hb rr)
                    try replace HQ := hI (HQ.out.below hb rr)
                    try replace HI1 := hI (HI1.out.below hb rr)
                    try replace HI2 := hI (HI2.out.below hb rr)
                    try clear hb
                    go_wp2_with fail
                    refine (exV_c _).mono ?_
                    rintro e X43 ⟨av3, rfl, hl_, hb⟩
                    replace HB0 := hI (HB0.out.trans (hb.mono HB0.out.size))
                    replace HT := hI (HT.out.below hb rr)
                    try replace HG := hI ((hb.block _ (lt_of_block HG.out)).trans HG.out)
                    try replace HGA := hI (HGA.out.below hb rr)
                    try replace HAPA := hI (HAPA.out.below hb rr)
                    try replace HPAP := hI (HPAP.out.below hb rr)
                    try replace HPA := hI (HPA.out.below hb rr)
                    try replace HBAD := hI (HBAD.out.below hb rr)
                    try replace HLONG := hI (HLONG.out.below hb rr)
                    try replace HLAWS := hI (HLAWS.out.below hb rr)
                    try replace HOVER := hI (HOVER.out.below hb rr)
                    try replace HVF := hI (HVF.out.below hb rr)
                    try replace HLA := hI (HLA.out.below hb rr)
                    try replace HLB := hI (HLB.out.below hb rr)
                    try replace HLC := hI (HLC.out.below hb rr)
                    try replace HX := hI (HX.out.below hb rr)
                    try replace HY := hI (HY.out.below hb rr)
                    try replace HZ := hI (HZ.out.below hb rr)
                    try replace HU := hI (HU.out.below hb rr)
                    try replace HV := hI (HV.out.below hb rr)
                    try replace HP := hI (HP.out.below hb rr)
                    try replace HQ := hI (HQ.out.below hb rr)
                    try replace HI1 := hI (HI1.out.below hb rr)
                    try replace HI2 := hI (HI2.out.below hb rr)
                    try clear hb
                    have HLA := hI hl_; clear hl_
                    go_wp2_with (refine law1A rfl (.tmp 366) rfl ⟨vD, av3⟩ rfl HLA.out ?hj4)
                    case hj4 =>
                     intro X44 hl2 hb hzz _
                     clear hzz
                     replace HB0 := hI (HB0.out.trans (hb.mono HB0.out.size))
                     replace HT := hI (HT.out.below hb rr)
                     try replace HG := hI ((hb.block _ (lt_of_block HG.out)).trans HG.out)
                     try replace HGA := hI (HGA.out.below hb rr)
                     try replace HAPA := hI (HAPA.out.below hb rr)
                     try replace HPAP := hI (HPAP.out.below hb rr)
                     try replace HPA := hI (HPA.out.below hb rr)
                     try replace HBAD := hI (HBAD.out.below hb rr)
                     try replace HLONG := hI (HLONG.out.below hb rr)
                     try replace HLAWS := hI (HLAWS.out.below hb rr)
                     try replace HOVER := hI (HOVER.out.below hb rr)
                     try replace HVF := hI (HVF.out.below hb rr)
                     try replace HLA := hI (HLA.out.below hb rr)
                     try replace HLB := hI (HLB.out.below hb rr)
                     try replace HLC := hI (HLC.out.below hb rr)
                     try replace HX := hI (HX.out.below hb rr)
                     try replace HY := hI (HY.out.below hb rr)
                     try replace HZ := hI (HZ.out.below hb rr)
                     try replace HU := hI (HU.out.below hb rr)
                     try replace HV := hI (HV.out.below hb rr)
                     try replace HP := hI (HP.out.below hb rr)
                     try replace HQ := hI (HQ.out.below hb rr)
                     try replace HI1 := hI (HI1.out.below hb rr)
                     try replace HI2 := hI (HI2.out.below hb rr)
                     try clear hb
                     have HL1 := hI hl2
                     clear hl2 HLA
                     go_wp2_with fail
                     refine (exF_c _).mono ?_
                     rintro e X45 ⟨af5, rfl, hl_, hb⟩
                     replace HL1 := hI (HL1.out.below hb rr)
                     replace HB0 := hI (HB0.out.trans (hb.mono HB0.out.size))
                     replace HT := hI (HT.out.below hb rr)
                     try replace HG := hI ((hb.block _ (lt_of_block HG.out)).trans HG.out)
                     try replace HGA := hI (HGA.out.below hb rr)
                     try replace HAPA := hI (HAPA.out.below hb rr)
                     try replace HPAP := hI (HPAP.out.below hb rr)
                     try replace HPA := hI (HPA.out.below hb rr)
                     try replace HBAD := hI (HBAD.out.below hb rr)
                     try replace HLONG := hI (HLONG.out.below hb rr)
                     try replace HLAWS := hI (HLAWS.out.below hb rr)
                     try replace HOVER := hI (HOVER.out.below hb rr)
                     try replace HVF := hI (HVF.out.below hb rr)
                     try replace HLA := hI (HLA.out.below hb rr)
                     try replace HLB := hI (HLB.out.below hb rr)
                     try replace HLC := hI (HLC.out.below hb rr)
                     try replace HX := hI (HX.out.below hb rr)
                     try replace HY := hI (HY.out.below hb rr)
                     try replace HZ := hI (HZ.out.below hb rr)
                     try replace HU := hI (HU.out.below hb rr)
                     try replace HV := hI (HV.out.below hb rr)
                     try replace HP := hI (HP.out.below hb rr)
                     try replace HQ := hI (HQ.out.below hb rr)
                     try replace HI1 := hI (HI1.out.below hb rr)
                     try replace HI2 := hI (HI2.out.below hb rr)
                     try clear hb
                     have HLB := hI hl_; clear hl_
                     go_wp2_with (refine law1A rfl (.tmp 368) rfl ⟨fD, af5⟩ rfl HLB.out ?hj5)
                     case hj5 =>
                      intro X46 hl2 hb hzz _
                      clear hzz
                      replace HL1 := hI (HL1.out.below hb rr)
                      replace HB0 := hI (HB0.out.trans (hb.mono HB0.out.size))
                      replace HT := hI (HT.out.below hb rr)
                      try replace HG := hI ((hb.block _ (lt_of_block HG.out)).trans HG.out)
                      try replace HGA := hI (HGA.out.below hb rr)
                      try replace HAPA := hI (HAPA.out.below hb rr)
                      try replace HPAP := hI (HPAP.out.below hb rr)
                      try replace HPA := hI (HPA.out.below hb rr)
                      try replace HBAD := hI (HBAD.out.below hb rr)
                      try replace HLONG := hI (HLONG.out.below hb rr)
                      try replace HLAWS := hI (HLAWS.out.below hb rr)
                      try replace HOVER := hI (HOVER.out.below hb rr)
                      try replace HVF := hI (HVF.out.below hb rr)
                      try replace HLA := hI (HLA.out.below hb rr)
                      try replace HLB := hI (HLB.out.below hb rr)
                      try replace HLC := hI (HLC.out.below hb rr)
                      try replace HX := hI (HX.out.below hb rr)
                      try replace HY := hI (HY.out.below hb rr)
                      try replace HZ := hI (HZ.out.below hb rr)
                      try replace HU := hI (HU.out.below hb rr)
                      try replace HV := hI (HV.out.below hb rr)
                      try replace HP := hI (HP.out.below hb rr)
                      try replace HQ := hI (HQ.out.below hb rr)
                      try replace HI1 := hI (HI1.out.below hb rr)
                      try replace HI2 := hI (HI2.out.below hb rr)
                      try clear hb
                      have HL2 := hI hl2
                      clear hl2 HLB
                      go_wp2_with fail
                      refine (split_c _ 1 1 [⟨vD, av3⟩] _ 1 1 [⟨fD, af5⟩] _ 3 3 [sP, sA, sP] X46 HL1.out HL2.out HPAP.out HT.out).mono ?_
                      rw [show splitM (lawsD [⟨vD, av3⟩]) (lawsD [⟨fD, af5⟩]) [sP, sA, sP] = (0, false, 0) from kn_cc]
                      rintro e X47 ⟨rfl, hb⟩
                      clear HL1 HL2
                      replace HB0 := hI (HB0.out.trans (hb.mono HB0.out.size))
                      replace HT := hI (HT.out.below hb rr)
                      try replace HG := hI ((hb.block _ (lt_of_block HG.out)).trans HG.out)
                      try replace HGA := hI (HGA.out.below hb rr)
                      try replace HAPA := hI (HAPA.out.below hb rr)
                      try replace HPAP := hI (HPAP.out.below hb rr)
                      try replace HPA := hI (HPA.out.below hb rr)
                      try replace HBAD := hI (HBAD.out.below hb rr)
                      try replace HLONG := hI (HLONG.out.below hb rr)
                      try replace HLAWS := hI (HLAWS.out.below hb rr)
                      try replace HOVER := hI (HOVER.out.below hb rr)
                      try replace HVF := hI (HVF.out.below hb rr)
                      try replace HLA := hI (HLA.out.below hb rr)
                      try replace HLB := hI (HLB.out.below hb rr)
                      try replace HLC := hI (HLC.out.below hb rr)
                      try replace HX := hI (HX.out.below hb rr)
                      try replace HY := hI (HY.out.below hb rr)
                      try replace HZ := hI (HZ.out.below hb rr)
                      try replace HU := hI (HU.out.below hb rr)
                      try replace HV := hI (HV.out.below hb rr)
                      try replace HP := hI (HP.out.below hb rr)
                      try replace HQ := hI (HQ.out.below hb rr)
                      try replace HI1 := hI (HI1.out.below hb rr)
                      try replace HI2 := hI (HI2.out.below hb rr)
                      try clear hb
                      have HPD : Hid (IsWord X47 (some ⟨bp, 2, none⟩) 2 2 [sA, sP]) := by
                       have h := HPAP.out.drop (k := 1) (by decide)
                       rw [if_neg (by decide)] at h
                       exact h
                      go_wp2_with fail
                      refine plain_region (fun _ => True) (by kernel_rfl) trivial (fun hHeld => ?_)
                      clear hHeld
                      have hb : Below X47.heap.size X47 X47.drew := (Below.refl _ _).drew
                      replace HPD := hI (HPD.out.below hb rr)
                      replace HB0 := hI (HB0.out.trans (hb.mono HB0.out.size))
                      replace HT := hI (HT.out.below hb rr)
                      try replace HG := hI ((hb.block _ (lt_of_block HG.out)).trans HG.out)
                      try replace HGA := hI (HGA.out.below hb rr)
                      try replace HAPA := hI (HAPA.out.below hb rr)
                      try replace HPAP := hI (HPAP.out.below hb rr)
                      try replace HPA := hI (HPA.out.below hb rr)
                      try replace HBAD := hI (HBAD.out.below hb rr)
                      try replace HLONG := hI (HLONG.out.below hb rr)
                      try replace HLAWS := hI (HLAWS.out.below hb rr)
                      try replace HOVER := hI (HOVER.out.below hb rr)
                      try replace HVF := hI (HVF.out.below hb rr)
                      try replace HLA := hI (HLA.out.below hb rr)
                      try replace HLB := hI (HLB.out.below hb rr)
                      try replace HLC := hI (HLC.out.below hb rr)
                      try replace HX := hI (HX.out.below hb rr)
                      try replace HY := hI (HY.out.below hb rr)
                      try replace HZ := hI (HZ.out.below hb rr)
                      try replace HU := hI (HU.out.below hb rr)
                      try replace HV := hI (HV.out.below hb rr)
                      try replace HP := hI (HP.out.below hb rr)
                      try replace HQ := hI (HQ.out.below hb rr)
                      try replace HI1 := hI (HI1.out.below hb rr)
                      try replace HI2 := hI (HI2.out.below hb rr)
                      try clear hb
                      generalize X47.drew = X48 at *
                      (refine' anyT_takeF (i := 3) (v := _) rfl (by kernel_rfl) (by kernel_rfl) (by kernel_rfl) (fun _ _ _ h => h) (Or.inl ⟨by rfl, fun w' hSw => by go_simp; (try with_reducible rfl)⟩) ?_; (try simp only [Act.put, nY, nX])); (refine' anyT_takeF (i := 4) (v := _) rfl (by kernel_rfl) (by kernel_rfl) (by kernel_rfl) (fun _ _ _ h => h) (Or.inl ⟨by rfl, fun w' hSw => by go_simp; (try with_reducible rfl)⟩) ?_; (try simp only [Act.put, nY, nX]))
                      refine anyT_sp 0 rfl (fun K' hK' => ?_)
                      rw [if_pos (by rfl)]
                      unfold Oper.wp
                      go_simp
                      refine (exV_c _).mono ?_
                      rintro e X49 ⟨av6, rfl, hl_, hb⟩
                      replace HPD := hI (HPD.out.below hb rr)
                      replace HB0 := hI (HB0.out.trans (hb.mono HB0.out.size))
                      replace HT := hI (HT.out.below hb rr)
                      try replace HG := hI ((hb.block _ (lt_of_block HG.out)).trans HG.out)
                      try replace HGA := hI (HGA.out.below hb rr)
                      try replace HAPA := hI (HAPA.out.below hb rr)
                      try replace HPAP := hI (HPAP.out.below hb rr)
                      try replace HPA := hI (HPA.out.below hb rr)
                      try replace HBAD := hI (HBAD.out.below hb rr)
                      try replace HLONG := hI (HLONG.out.below hb rr)
                      try replace HLAWS := hI (HLAWS.out.below hb rr)
                      try replace HOVER := hI (HOVER.out.below hb rr)
                      try replace HVF := hI (HVF.out.below hb rr)
                      try replace HLA := hI (HLA.out.below hb rr)
                      try replace HLB := hI (HLB.out.below hb rr)
                      try replace HLC := hI (HLC.out.below hb rr)
                      try replace HX := hI (HX.out.below hb rr)
                      try replace HY := hI (HY.out.below hb rr)
                      try replace HZ := hI (HZ.out.below hb rr)
                      try replace HU := hI (HU.out.below hb rr)
                      try replace HV := hI (HV.out.below hb rr)
                      try replace HP := hI (HP.out.below hb rr)
                      try replace HQ := hI (HQ.out.below hb rr)
                      try replace HI1 := hI (HI1.out.below hb rr)
                      try replace HI2 := hI (HI2.out.below hb rr)
                      try clear hb
                      have HLA := hI hl_; clear hl_
                      refine hK' _ _ ⟨.inr trivial, fun _ => ?_⟩
                      clear hK' K'
                      (try simp only [Act.put, nY, nX])
                      refine anyT_sp 1 rfl (fun K' hK' => ?_)
                      rw [if_pos (by rfl)]
                      unfold Oper.wp
                      go_simp
                      refine (exF_c _).mono ?_
                      rintro e X50 ⟨af6, rfl, hl_, hb⟩
                      replace HPD := hI (HPD.out.below hb rr)
                      replace HB0 := hI (HB0.out.trans (hb.mono HB0.out.size))
                      replace HT := hI (HT.out.below hb rr)
                      try replace HG := hI ((hb.block _ (lt_of_block HG.out)).trans HG.out)
                      try replace HGA := hI (HGA.out.below hb rr)
                      try replace HAPA := hI (HAPA.out.below hb rr)
                      try replace HPAP := hI (HPAP.out.below hb rr)
                      try replace HPA := hI (HPA.out.below hb rr)
                      try replace HBAD := hI (HBAD.out.below hb rr)
                      try replace HLONG := hI (HLONG.out.below hb rr)
                      try replace HLAWS := hI (HLAWS.out.below hb rr)
                      try replace HOVER := hI (HOVER.out.below hb rr)
                      try replace HVF := hI (HVF.out.below hb rr)
                      try replace HLA := hI (HLA.out.below hb rr)
                      try replace HLB := hI (HLB.out.below hb rr)
                      try replace HLC := hI (HLC.out.below hb rr)
                      try replace HX := hI (HX.out.below hb rr)
                      try replace HY := hI (HY.out.below hb rr)
                      try replace HZ := hI (HZ.out.below hb rr)
                      try replace HU := hI (HU.out.below hb rr)
                      try replace HV := hI (HV.out.below hb rr)
                      try replace HP := hI (HP.out.below hb rr)
                      try replace HQ := hI (HQ.out.below hb rr)
                      try replace HI1 := hI (HI1.out.below hb rr)
                      try replace HI2 := hI (HI2.out.below hb rr)
                      try clear hb
                      have HLB := hI hl_; clear hl_
                      refine hK' _ _ ⟨.inr trivial, fun _ => ?_⟩
                      clear hK' K'
                      (try simp only [Act.put, nY, nX])
                      refine anyT_sp 2 rfl (fun K' hK' => ?_)
                      rw [if_pos (by rfl)]
                      refine upon_law2 X50 (.tmp 376) (.tmp 377) rfl ⟨vD, av6⟩ ⟨fD, af6⟩ (by rfl) (by rfl) HLA.out HLB.out ?_
                      intro X51 hl2 hb hzz
                      clear hzz
                      replace HPD := hI (HPD.out.below hb rr)
                      replace HB0 := hI (HB0.out.trans (hb.mono HB0.out.size))
                      replace HT := hI (HT.out.below hb rr)
                      try replace HG := hI ((hb.block _ (lt_of_block HG.out)).trans HG.out)
                      try replace HGA := hI (HGA.out.below hb rr)
                      try replace HAPA := hI (HAPA.out.below hb rr)
                      try replace HPAP := hI (HPAP.out.below hb rr)
                      try replace HPA := hI (HPA.out.below hb rr)
                      try replace HBAD := hI (HBAD.out.below hb rr)
                      try replace HLONG := hI (HLONG.out.below hb rr)
                      try replace HLAWS := hI (HLAWS.out.below hb rr)
                      try replace HOVER := hI (HOVER.out.below hb rr)
                      try replace HVF := hI (HVF.out.below hb rr)
                      try replace HLA := hI (HLA.out.below hb rr)
                      try replace HLB := hI (HLB.out.below hb rr)
                      try replace HLC := hI (HLC.out.below hb rr)
                      try replace HX := hI (HX.out.below hb rr)
                      try replace HY := hI (HY.out.below hb rr)
                      try replace HZ := hI (HZ.out.below hb rr)
                      try replace HU := hI (HU.out.below hb rr)
                      try replace HV := hI (HV.out.below hb rr)
                      try replace HP := hI (HP.out.below hb rr)
                      try replace HQ := hI (HQ.out.below hb rr)
                      try replace HI1 := hI (HI1.out.below hb rr)
                      try replace HI2 := hI (HI2.out.below hb rr)
                      try clear hb
                      have HL1 := hI hl2
                      clear hl2 HLA HLB
                      refine hK' _ _ ⟨.inr trivial, fun _ => ?_⟩
                      clear hK' K'
                      (try simp only [Act.put, nY, nX])
                      refine anyT_sp 5 rfl (fun K' hK' => ?_)
                      rw [if_pos (by rfl)]
                      unfold Oper.wp
                      go_simp
                      refine (split_c none 0 0 [] _ 2 2 [⟨vD, av6⟩, ⟨fD, af6⟩] _ 2 2 [sA, sP] X51 ⟨⟨Cells.nil _ _, rfl⟩, fun x hx => by simp at hx⟩ HL1.out HPD.out HT.out).mono ?_
                      rw [show splitM (lawsD []) (lawsD [⟨vD, av6⟩, ⟨fD, af6⟩]) [sA, sP] = (0, false, 0) from kn_dd]
                      rintro e X52 ⟨rfl, hb⟩
                      clear HL1 HPD
                      replace HB0 := hI (HB0.out.trans (hb.mono HB0.out.size))
                      replace HT := hI (HT.out.below hb rr)
                      try replace HG := hI ((hb.block _ (lt_of_block HG.out)).trans HG.out)
                      try replace HGA := hI (HGA.out.below hb rr)
                      try replace HAPA := hI (HAPA.out.below hb rr)
                      try replace HPAP := hI (HPAP.out.below hb rr)
                      try replace HPA := hI (HPA.out.below hb rr)
                      try replace HBAD := hI (HBAD.out.below hb rr)
                      try replace HLONG := hI (HLONG.out.below hb rr)
                      try replace HLAWS := hI (HLAWS.out.below hb rr)
                      try replace HOVER := hI (HOVER.out.below hb rr)
                      try replace HVF := hI (HVF.out.below hb rr)
                      try replace HLA := hI (HLA.out.below hb rr)
                      try replace HLB := hI (HLB.out.below hb rr)
                      try replace HLC := hI (HLC.out.below hb rr)
                      try replace HX := hI (HX.out.below hb rr)
                      try replace HY := hI (HY.out.below hb rr)
                      try replace HZ := hI (HZ.out.below hb rr)
                      try replace HU := hI (HU.out.below hb rr)
                      try replace HV := hI (HV.out.below hb rr)
                      try replace HP := hI (HP.out.below hb rr)
                      try replace HQ := hI (HQ.out.below hb rr)
                      try replace HI1 := hI (HI1.out.below hb rr)
                      try replace HI2 := hI (HI2.out.below hb rr)
                      try clear hb
                      refine hK' _ _ ⟨.inr trivial, fun _ => ?_⟩
                      clear hK' K'
                      (try simp only [Act.put, nY, nX])
                      (refine anyT_sp 6 rfl (fun K' hK' => ?_); simp only [nY]; go_simp)
                      refine hK' _ _ ⟨.inr trivial, fun _ => ?_⟩
                      clear hK' K'
                      (try simp only [Act.put, nY, nX])
                      (refine' anyT_takeF (i := 7) (v := _) rfl (by kernel_rfl) (by kernel_rfl) (by kernel_rfl) (fun _ _ _ h => h) (Or.inl ⟨by rfl, fun w' hSw => by go_simp; (try with_reducible rfl)⟩) ?_; (try simp only [Act.put, nY, nX])); (refine' anyT_takeF (i := 8) (v := _) rfl (by kernel_rfl) (by kernel_rfl) (by kernel_rfl) (fun _ _ _ h => h) (Or.inl ⟨by rfl, fun w' hSw => by go_simp; (try with_reducible rfl)⟩) ?_; (try simp only [Act.put, nY, nX])); (refine' anyT_takeF (i := 9) (v := _) rfl (by kernel_rfl) (by kernel_rfl) (by kernel_rfl) (fun _ _ _ h => h) (Or.inl ⟨by rfl, fun w' hSw => by go_simp; (try with_reducible rfl)⟩) ?_; (try simp only [Act.put, nY, nX]))
                      (refine anyT_sp 10 rfl (fun K' hK' => ?_); simp only [nY]; go_simp)
                      refine hK' _ _ ⟨.inr trivial, fun _ => ?_⟩
                      clear hK' K'
                      (try simp only [Act.put, nY, nX])
                      (refine anyT_sp 11 rfl (fun K' hK' => ?_); simp only [nY]; go_simp)
                      refine hK' _ _ ⟨.inr trivial, fun _ => ?_⟩
                      clear hK' K'
                      (try simp only [Act.put, nY, nX])
                      (refine anyT_sp 12 rfl (fun K' hK' => ?_); simp only [nY]; go_simp)
                      refine hK' _ _ ⟨.inl (by kernel_rfl), fun _ => anyT_done (by kernel_rfl) ?_ _⟩
                      clear hK' K'
                      go_wp2_with fail
                      refine (works_c X52 HT.out).mono ?_
                      rintro e X53 ⟨rfl, hb⟩
                      have hBE := HB0.out.trans (hb.mono HB0.out.size)
                      go_wp2
                      go_ret
                      exact ⟨rfl, hBE⟩
end Go.Proofs.YtlgliddhideflaaGreatDoor

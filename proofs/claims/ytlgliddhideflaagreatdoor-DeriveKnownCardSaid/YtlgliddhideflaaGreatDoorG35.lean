/-
  The examples of the statements' own package: sounds and laws.
  The examples of the chapter hold.
-/
import Derived.Test.YtlgliddhideflaaGreatDoorG34
import Derived.Test.YtlgliddhideflaaGreatDoorG52
import Derived.Test.YtlgliddhideflaaGreatDoorG16
set_option linter.all false
set_option maxRecDepth 100000
set_option maxHeartbeats 4000000
namespace Go.Proofs.YtlgliddhideflaaGreatDoor
open Go.RowKit Go.Shelf
theorem exA_c (w : World) : Calls Tryz.prog 15 #[] w fun e w' => e = .returned (sndV sA.1 sA.2) ∧ Below w.heap.size w w' := by
 go_enter Tryz.func15, Tryz.ntmps15
 go_wp2
 refine bodyPost_ret (results_cell_snd Tryz.results15 _ _ w.heap.size 5 2 rfl ?_) rfl ⟨rfl, ?_⟩
 ·exact heap_new_at rfl
 ·exact bel
theorem exP_c (w : World) : Calls Tryz.prog 16 #[] w fun e w' => e = .returned (sndV sP.1 sP.2) ∧ Below w.heap.size w w' := by
 go_enter Tryz.func16, Tryz.ntmps16
 go_wp2
 refine bodyPost_ret (results_cell_snd Tryz.results16 _ _ w.heap.size 2 5 rfl ?_) rfl ⟨rfl, ?_⟩
 ·exact heap_new_at rfl
 ·exact bel
theorem exB_c (w : World) : Calls Tryz.prog 87 #[] w fun e w' => e = .returned (sndV sB.1 sB.2) ∧ Below w.heap.size w w' := by
 go_enter Tryz.func87, Tryz.ntmps87
 go_wp2
 refine bodyPost_ret (results_cell_snd Tryz.results87 _ _ w.heap.size 3 4 rfl ?_) rfl ⟨rfl, ?_⟩
 ·exact heap_new_at rfl
 ·exact bel
theorem exF_c (w : World) : Calls Tryz.prog 17 #[] w (RetLaw w fD) := by
 obtain ⟨a, ha⟩ : ∃ a : LawA, a = { Al := none, cl := 0, Ar := none, cr := 0, Ai := some ⟨w.heap.size + 1, 0, none⟩, ci := 1, Ao := none, co := 0 } := ⟨_, rfl⟩
 go_enter Tryz.func17, Tryz.ntmps17
 go_wp2_with (refine store_law rfl (.tmp 0) (.tmp 4) rfl w.heap.size fD a rfl (by rw [ha]; rfl) (t := 34) ((heap_old_at (by simp)).trans (heap_new_at rfl)) rfl ?_; intro W1 g1 g2 g3)
 have h1 := (g2.block (w.heap.size + 1) (by simp) (by omega)).trans (heap_new_at (by simp))
 refine bodyPost_ret (results_cell_law Tryz.results17 _ _ w.heap.size fD a rfl g1) rfl ⟨a, rfl, ?_, ?_⟩
 ·subst ha
  exact ⟨FSl_nil _, FSl_nil _, one_word (s := (4, 0)) h1, ⟨Cells.nil _ _, rfl⟩, by decide⟩
 ·exact Below.trans bel (g2.to_below (B := w.heap.size) (fun k hk => by omega) (by simp; omega))
theorem exV_c (w : World) : Calls Tryz.prog 20 #[] w (RetLaw w vD) := by
 obtain ⟨a, ha⟩ : ∃ a : LawA, a = { Al := none, cl := 0, Ar := none, cr := 0, Ai := some ⟨w.heap.size + 1 + 1, 0, none⟩, ci := 1, Ao := some ⟨w.heap.size + 1 + 1 + 1, 0, none⟩, co := 1 } := ⟨_, rfl⟩
 go_enter Tryz.func20, Tryz.ntmps20
 go_wp2_with (refine store_law rfl (.tmp 0) (.tmp 11) rfl w.heap.size vD a rfl (by rw [ha]; rfl) (t := 34) (by repeat (first | exact heap_new_at sd | rw [heap_old_at sd])) rfl ?_; intro W1 g1 g2 g3)
 have h1 := (g2.block (w.heap.size + 1 + 1) (by simp) (by omega)).trans (show _ = some (.cells #[.int .u32 2, .int .u32 0] 24 (0, 0)) by repeat (first | exact heap_new_at sd | rw [heap_old_at sd]))
 have h2 := (g2.block (w.heap.size + 1 + 1 + 1) (by simp) (by omega)).trans (show _ = some (.cells #[.int .i64 0, .int .u32 0, .int .u32 1, .int .u32 0, .int .u32 0, .int .i64 0] 30 (0, 0)) by repeat (first | exact heap_new_at sd | rw [heap_old_at sd]))
 refine bodyPost_ret (results_cell_law Tryz.results20 _ _ w.heap.size vD a rfl g1) rfl ⟨a, rfl, ?_, ?_⟩
 ·subst ha
  refine ⟨FSl_nil _, FSl_nil _, one_word (s := (2, 0)) h1, ⟨⟨rfl, rr, (by decide : 1 ≤ maxLen), (fun h => by cases h), fun _ => ⟨w.heap.size + 1 + 1 + 1, 0, rfl, lt_of_block h2, fun j v hv => ?_⟩⟩, rfl⟩, by decide⟩
  rw [Nat.zero_add]
  refine cell_at_heap h2 ?_
  have hv' : [Value.int .i64 0, .int .u32 0, .int .u32 1, .int .u32 0, .int .u32 0, .int .i64 0][j]? = some v := hv
  simpa using hv'
 ·exact Below.trans bel (g2.to_below (B := w.heap.size) (fun k hk => by omega) (by simp; omega))
/-! What the examples come to. -/
theorem exm1 : deriveM [vD, fD] [sA, sP, sA] = (0, [sA, sB]) := by kernel_rfl
theorem exm2 : deriveM [fD, vD] [sA, sP, sA] = (0, [sA, sP]) := by kernel_rfl
theorem exm3 : formsE [fD, vD] [sA, sP, sA] = (0, [[sA, sP, sA], [sA, sP], [sA, sP]]) := by kernel_rfl
theorem exm4 : splitM [vD, fD] [fD, vD] [sA, sP, sA] = (1, true, 0) := by kernel_rfl
theorem exm5 : usedM [vD, fD] [[sA, sP, sA], [sP, sA, sP], [sP, sA]] = (0, [1, 2]) := by kernel_rfl
theorem works_c (w : World) (hT : TabOK w) : Calls Tryz.prog 28 #[] w fun e w' => e = .returned (.bool true) ∧ Below w.heap.size w w' := by
 have HT := hI hT; clear hT
 have HB0 := hI (Below.refl w.heap.size w)
 go_enter Tryz.func28, Tryz.ntmps28
 go_wp2_with fail
 refine (exA_c _).mono ?_
 rintro e w1 ⟨rfl, hb⟩
 replace HB0 := hI (HB0.out.trans (hb.mono HB0.out.size))
 try replace HT := hI (HT.out.below hb rr)
 try replace HAPA := hI (HAPA.out.below hb rr)
 try replace HX := hI (HX.out.below hb rr)
 try replace HY := hI (HY.out.below hb rr)
 try replace HL := hI (HL.out.below hb rr)
 try replace HNN := hI (HNN.out.below hb rr)
 try replace HLA := hI (HLA.out.below hb rr)
 try replace HLB := hI (HLB.out.below hb rr)
 try replace HLC := hI (HLC.out.below hb rr)
 try replace HLD := hI (HLD.out.below hb rr)
 try replace HU := hI (HU.out.below hb rr)
 try replace HV := hI (HV.out.below hb rr)
 try replace HZ := hI (HZ.out.below hb rr)
 try clear hb
 go_wp2_with fail
 refine (exP_c _).mono ?_
 rintro e w2 ⟨rfl, hb⟩
 replace HB0 := hI (HB0.out.trans (hb.mono HB0.out.size))
 try replace HT := hI (HT.out.below hb rr)
 try replace HAPA := hI (HAPA.out.below hb rr)
 try replace HX := hI (HX.out.below hb rr)
 try replace HY := hI (HY.out.below hb rr)
 try replace HL := hI (HL.out.below hb rr)
 try replace HNN := hI (HNN.out.below hb rr)
 try replace HLA := hI (HLA.out.below hb rr)
 try replace HLB := hI (HLB.out.below hb rr)
 try replace HLC := hI (HLC.out.below hb rr)
 try replace HLD := hI (HLD.out.below hb rr)
 try replace HU := hI (HU.out.below hb rr)
 try replace HV := hI (HV.out.below hb rr)
 try replace HZ := hI (HZ.out.below hb rr)
 try clear hb
 go_wp2_with fail
 refine (exA_c _).mono ?_
 rintro e w3 ⟨rfl, hb⟩
 replace HB0 := hI (HB0.out.trans (hb.mono HB0.out.size))
 try replace HT := hI (HT.out.below hb rr)
 try replace HAPA := hI (HAPA.out.below hb rr)
 try replace HX := hI (HX.out.below hb rr)
 try replace HY := hI (HY.out.below hb rr)
 try replace HL := hI (HL.out.below hb rr)
 try replace HNN := hI (HNN.out.below hb rr)
 try replace HLA := hI (HLA.out.below hb rr)
 try replace HLB := hI (HLB.out.below hb rr)
 try replace HLC := hI (HLC.out.below hb rr)
 try replace HLD := hI (HLD.out.below hb rr)
 try replace HU := hI (HU.out.below hb rr)
 try replace HV := hI (HV.out.below hb rr)
 try replace HZ := hI (HZ.out.below hb rr)
 try clear hb
 go_wp2_with fail
 have HAPA := hI (built_word w3 [sA, sP, sA] 24 (by simp))
 have hb : Below w3.heap.size w3 (w3.alloc (.cells (wcells [sA, sP, sA]).toArray 24)) := bel
 replace HB0 := hI (HB0.out.trans (hb.mono HB0.out.size))
 try replace HT := hI (HT.out.below hb rr)
 try replace HAPA := hI (HAPA.out.below hb rr)
 try replace HX := hI (HX.out.below hb rr)
 try replace HY := hI (HY.out.below hb rr)
 try replace HL := hI (HL.out.below hb rr)
 try replace HNN := hI (HNN.out.below hb rr)
 try replace HLA := hI (HLA.out.below hb rr)
 try replace HLB := hI (HLB.out.below hb rr)
 try replace HLC := hI (HLC.out.below hb rr)
 try replace HLD := hI (HLD.out.below hb rr)
 try replace HU := hI (HU.out.below hb rr)
 try replace HV := hI (HV.out.below hb rr)
 try replace HZ := hI (HZ.out.below hb rr)
 try clear hb
 rw [show w3.alloc (.cells #[.int .u32 sA.1, .int .u32 sA.2, .int .u32 sP.1, .int .u32 sP.2, .int .u32 sA.1, .int .u32 sA.2] 24) = w3.alloc (.cells (wcells [sA, sP, sA]).toArray 24) from rfl]
 generalize w3.alloc (.cells (wcells [sA, sP, sA]).toArray 24) = w3' at *
 go_wp2_with fail
 refine (exV_c _).mono ?_
 rintro e w4 ⟨av, rfl, hl_, hb⟩
 replace HB0 := hI (HB0.out.trans (hb.mono HB0.out.size))
 try replace HT := hI (HT.out.below hb rr)
 try replace HAPA := hI (HAPA.out.below hb rr)
 try replace HX := hI (HX.out.below hb rr)
 try replace HY := hI (HY.out.below hb rr)
 try replace HL := hI (HL.out.below hb rr)
 try replace HNN := hI (HNN.out.below hb rr)
 try replace HLA := hI (HLA.out.below hb rr)
 try replace HLB := hI (HLB.out.below hb rr)
 try replace HLC := hI (HLC.out.below hb rr)
 try replace HLD := hI (HLD.out.below hb rr)
 try replace HU := hI (HU.out.below hb rr)
 try replace HV := hI (HV.out.below hb rr)
 try replace HZ := hI (HZ.out.below hb rr)
 try clear hb
 have HLA := hI hl_; clear hl_
 go_wp2_with fail
 refine (exF_c _).mono ?_
 rintro e w5 ⟨af, rfl, hl_, hb⟩
 replace HB0 := hI (HB0.out.trans (hb.mono HB0.out.size))
 try replace HT := hI (HT.out.below hb rr)
 try replace HAPA := hI (HAPA.out.below hb rr)
 try replace HX := hI (HX.out.below hb rr)
 try replace HY := hI (HY.out.below hb rr)
 try replace HL := hI (HL.out.below hb rr)
 try replace HNN := hI (HNN.out.below hb rr)
 try replace HLA := hI (HLA.out.below hb rr)
 try replace HLB := hI (HLB.out.below hb rr)
 try replace HLC := hI (HLC.out.below hb rr)
 try replace HLD := hI (HLD.out.below hb rr)
 try replace HU := hI (HU.out.below hb rr)
 try replace HV := hI (HV.out.below hb rr)
 try replace HZ := hI (HZ.out.below hb rr)
 try clear hb
 have HLB := hI hl_; clear hl_
 go_wp2_with (refine build_law2 rfl (.tmp 18) (.tmp 19) rfl ⟨vD, av⟩ ⟨fD, af⟩ rfl rfl ?_)
 have HLC := hI (built_laws2 w5 ⟨vD, av⟩ ⟨fD, af⟩ 34 HLA.out HLB.out)
 have hb : Below w5.heap.size w5 (w5.alloc (.cells ((LawR.mk vD av).cells ++ (LawR.mk fD af).cells).toArray 34)) := bel
 replace HB0 := hI (HB0.out.trans (hb.mono HB0.out.size))
 try replace HT := hI (HT.out.below hb rr)
 try replace HAPA := hI (HAPA.out.below hb rr)
 try replace HX := hI (HX.out.below hb rr)
 try replace HY := hI (HY.out.below hb rr)
 try replace HL := hI (HL.out.below hb rr)
 try replace HNN := hI (HNN.out.below hb rr)
 try replace HLA := hI (HLA.out.below hb rr)
 try replace HLB := hI (HLB.out.below hb rr)
 try replace HLC := hI (HLC.out.below hb rr)
 try replace HLD := hI (HLD.out.below hb rr)
 try replace HU := hI (HU.out.below hb rr)
 try replace HV := hI (HV.out.below hb rr)
 try replace HZ := hI (HZ.out.below hb rr)
 try clear hb
 generalize w5.alloc (.cells ((LawR.mk vD av).cells ++ (LawR.mk fD af).cells).toArray 34) = w6 at *
 clear HLA HLB
 refine (derive_c _ 2 2 [⟨vD, av⟩, ⟨fD, af⟩] _ 3 3 [sA, sP, sA] w6 HLC.out HAPA.out HT.out).mono ?_
 rw [show deriveM (lawsD [⟨vD, av⟩, ⟨fD, af⟩]) [sA, sP, sA] = (0, [sA, sB]) from exm1]
 rintro e w7 ⟨Ax, nx, cx, rfl, hx_, hb, -⟩
 clear HLC
 replace HB0 := hI (HB0.out.trans (hb.mono HB0.out.size))
 try replace HT := hI (HT.out.below hb rr)
 try replace HAPA := hI (HAPA.out.below hb rr)
 try replace HX := hI (HX.out.below hb rr)
 try replace HY := hI (HY.out.below hb rr)
 try replace HL := hI (HL.out.below hb rr)
 try replace HNN := hI (HNN.out.below hb rr)
 try replace HLA := hI (HLA.out.below hb rr)
 try replace HLB := hI (HLB.out.below hb rr)
 try replace HLC := hI (HLC.out.below hb rr)
 try replace HLD := hI (HLD.out.below hb rr)
 try replace HU := hI (HU.out.below hb rr)
 try replace HV := hI (HV.out.below hb rr)
 try replace HZ := hI (HZ.out.below hb rr)
 try clear hb
 have HX := hI hx_; clear hx_
 go_wp2_with fail
 refine (exF_c _).mono ?_
 rintro e w8 ⟨af1, rfl, hl_, hb⟩
 replace HB0 := hI (HB0.out.trans (hb.mono HB0.out.size))
 try replace HT := hI (HT.out.below hb rr)
 try replace HAPA := hI (HAPA.out.below hb rr)
 try replace HX := hI (HX.out.below hb rr)
 try replace HY := hI (HY.out.below hb rr)
 try replace HL := hI (HL.out.below hb rr)
 try replace HNN := hI (HNN.out.below hb rr)
 try replace HLA := hI (HLA.out.below hb rr)
 try replace HLB := hI (HLB.out.below hb rr)
 try replace HLC := hI (HLC.out.below hb rr)
 try replace HLD := hI (HLD.out.below hb rr)
 try replace HU := hI (HU.out.below hb rr)
 try replace HV := hI (HV.out.below hb rr)
 try replace HZ := hI (HZ.out.below hb rr)
 try clear hb
 have HLA := hI hl_; clear hl_
 go_wp2_with fail
 refine (exV_c _).mono ?_
 rintro e w9 ⟨av1, rfl, hl_, hb⟩
 replace HB0 := hI (HB0.out.trans (hb.mono HB0.out.size))
 try replace HT := hI (HT.out.below hb rr)
 try replace HAPA := hI (HAPA.out.below hb rr)
 try replace HX := hI (HX.out.below hb rr)
 try replace HY := hI (HY.out.below hb rr)
 try replace HL := hI (HL.out.below hb rr)
 try replace HNN := hI (HNN.out.below hb rr)
 try replace HLA := hI (HLA.out.below hb rr)
 try replace HLB := hI (HLB.out.below hb rr)
 try replace HLC := hI (HLC.out.below hb rr)
 try replace HLD := hI (HLD.out.below hb rr)
 try replace HU := hI (HU.out.below hb rr)
 try replace HV := hI (HV.out.below hb rr)
 try replace HZ := hI (HZ.out.below hb rr)
 try clear hb
 have HLB := hI hl_; clear hl_
 go_wp2_with (refine build_law2 rfl (.tmp 26) (.tmp 27) rfl ⟨fD, af1⟩ ⟨vD, av1⟩ rfl rfl ?_)
 have HLC := hI (built_laws2 w9 ⟨fD, af1⟩ ⟨vD, av1⟩ 34 HLA.out HLB.out)
 have hb : Below w9.heap.size w9 (w9.alloc (.cells ((LawR.mk fD af1).cells ++ (LawR.mk vD av1).cells).toArray 34)) := bel
 replace HB0 := hI (HB0.out.trans (hb.mono HB0.out.size))
 try replace HT := hI (HT.out.below hb rr)
 try replace HAPA := hI (HAPA.out.below hb rr)
 try replace HX := hI (HX.out.below hb rr)
 try replace HY := hI (HY.out.below hb rr)
 try replace HL := hI (HL.out.below hb rr)
 try replace HNN := hI (HNN.out.below hb rr)
 try replace HLA := hI (HLA.out.below hb rr)
 try replace HLB := hI (HLB.out.below hb rr)
 try replace HLC := hI (HLC.out.below hb rr)
 try replace HLD := hI (HLD.out.below hb rr)
 try replace HU := hI (HU.out.below hb rr)
 try replace HV := hI (HV.out.below hb rr)
 try replace HZ := hI (HZ.out.below hb rr)
 try clear hb
 generalize w9.alloc (.cells ((LawR.mk fD af1).cells ++ (LawR.mk vD av1).cells).toArray 34) = w10 at *
 clear HLA HLB
 refine (derive_c _ 2 2 [⟨fD, af1⟩, ⟨vD, av1⟩] _ 3 3 [sA, sP, sA] w10 HLC.out HAPA.out HT.out).mono ?_
 rw [show deriveM (lawsD [⟨fD, af1⟩, ⟨vD, av1⟩]) [sA, sP, sA] = (0, [sA, sP]) from exm2]
 rintro e w11 ⟨Ay, ny, cy, rfl, hx_, hb, -⟩
 clear HLC
 replace HB0 := hI (HB0.out.trans (hb.mono HB0.out.size))
 try replace HT := hI (HT.out.below hb rr)
 try replace HAPA := hI (HAPA.out.below hb rr)
 try replace HX := hI (HX.out.below hb rr)
 try replace HY := hI (HY.out.below hb rr)
 try replace HL := hI (HL.out.below hb rr)
 try replace HNN := hI (HNN.out.below hb rr)
 try replace HLA := hI (HLA.out.below hb rr)
 try replace HLB := hI (HLB.out.below hb rr)
 try replace HLC := hI (HLC.out.below hb rr)
 try replace HLD := hI (HLD.out.below hb rr)
 try replace HU := hI (HU.out.below hb rr)
 try replace HV := hI (HV.out.below hb rr)
 try replace HZ := hI (HZ.out.below hb rr)
 try clear hb
 have HY := hI hx_; clear hx_
 go_wp2_with fail
 refine (exF_c _).mono ?_
 rintro e w12 ⟨af2, rfl, hl_, hb⟩
 replace HB0 := hI (HB0.out.trans (hb.mono HB0.out.size))
 try replace HT := hI (HT.out.below hb rr)
 try replace HAPA := hI (HAPA.out.below hb rr)
 try replace HX := hI (HX.out.below hb rr)
 try replace HY := hI (HY.out.below hb rr)
 try replace HL := hI (HL.out.below hb rr)
 try replace HNN := hI (HNN.out.below hb rr)
 try replace HLA := hI (HLA.out.below hb rr)
 try replace HLB := hI (HLB.out.below hb rr)
 try replace HLC := hI (HLC.out.below hb rr)
 try replace HLD := hI (HLD.out.below hb rr)
 try replace HU := hI (HU.out.below hb rr)
 try replace HV := hI (HV.out.below hb rr)
 try replace HZ := hI (HZ.out.below hb rr)
 try clear hb
 have HLA := hI hl_; clear hl_
 go_wp2_with fail
 refine (exV_c _).mono ?_
 rintro e w13 ⟨av2, rfl, hl_, hb⟩
 replace HB0 := hI (HB0.out.trans (hb.mono HB0.out.size))
 try replace HT := hI (HT.out.below hb rr)
 try replace HAPA := hI (HAPA.out.below hb rr)
 try replace HX := hI (HX.out.below hb rr)
 try replace HY := hI (HY.out.below hb rr)
 try replace HL := hI (HL.out.below hb rr)
 try replace HNN := hI (HNN.out.below hb rr)
 try replace HLA := hI (HLA.out.below hb rr)
 try replace HLB := hI (HLB.out.below hb rr)
 try replace HLC := hI (HLC.out.below hb rr)
 try replace HLD := hI (HLD.out.below hb rr)
 try replace HU := hI (HU.out.below hb rr)
 try replace HV := hI (HV.out.below hb rr)
 try replace HZ := hI (HZ.out.below hb rr)
 try clear hb
 have HLB := hI hl_; clear hl_
 go_wp2_with (refine build_law2 rfl (.tmp 34) (.tmp 35) rfl ⟨fD, af2⟩ ⟨vD, av2⟩ rfl rfl ?_)
 have HLC := hI (built_laws2 w13 ⟨fD, af2⟩ ⟨vD, av2⟩ 34 HLA.out HLB.out)
 have hb : Below w13.heap.size w13 (w13.alloc (.cells ((LawR.mk fD af2).cells ++ (LawR.mk vD av2).cells).toArray 34)) := bel
 replace HB0 := hI (HB0.out.trans (hb.mono HB0.out.size))
 try replace HT := hI (HT.out.below hb rr)
 try replace HAPA := hI (HAPA.out.below hb rr)
 try replace HX := hI (HX.out.below hb rr)
 try replace HY := hI (HY.out.below hb rr)
 try replace HL := hI (HL.out.below hb rr)
 try replace HNN := hI (HNN.out.below hb rr)
 try replace HLA := hI (HLA.out.below hb rr)
 try replace HLB := hI (HLB.out.below hb rr)
 try replace HLC := hI (HLC.out.below hb rr)
 try replace HLD := hI (HLD.out.below hb rr)
 try replace HU := hI (HU.out.below hb rr)
 try replace HV := hI (HV.out.below hb rr)
 try replace HZ := hI (HZ.out.below hb rr)
 try clear hb
 generalize w13.alloc (.cells ((LawR.mk fD af2).cells ++ (LawR.mk vD av2).cells).toArray 34) = w14 at *
 clear HLA HLB
 refine (forms_all _ 2 2 [⟨fD, af2⟩, ⟨vD, av2⟩] _ 3 3 [sA, sP, sA] w14 HLC.out HAPA.out HT.out).mono ?_
 rw [show formsE (lawsD [⟨fD, af2⟩, ⟨vD, av2⟩]) [sA, sP, sA] = (0, [[sA, sP, sA], [sA, sP], [sA, sP]]) from exm3]
 rintro e w15 ⟨Al, nl, cl, rfl, hx_, hb⟩
 clear HLC
 replace HB0 := hI (HB0.out.trans (hb.mono HB0.out.size))
 try replace HT := hI (HT.out.below hb rr)
 try replace HAPA := hI (HAPA.out.below hb rr)
 try replace HX := hI (HX.out.below hb rr)
 try replace HY := hI (HY.out.below hb rr)
 try replace HL := hI (HL.out.below hb rr)
 try replace HNN := hI (HNN.out.below hb rr)
 try replace HLA := hI (HLA.out.below hb rr)
 try replace HLB := hI (HLB.out.below hb rr)
 try replace HLC := hI (HLC.out.below hb rr)
 try replace HLD := hI (HLD.out.below hb rr)
 try replace HU := hI (HU.out.below hb rr)
 try replace HV := hI (HV.out.below hb rr)
 try replace HZ := hI (HZ.out.below hb rr)
 try clear hb
 have HL := hI hx_; clear hx_
 go_wp2_with fail
 refine (exV_c _).mono ?_
 rintro e w16 ⟨av3, rfl, hl_, hb⟩
 replace HB0 := hI (HB0.out.trans (hb.mono HB0.out.size))
 try replace HT := hI (HT.out.below hb rr)
 try replace HAPA := hI (HAPA.out.below hb rr)
 try replace HX := hI (HX.out.below hb rr)
 try replace HY := hI (HY.out.below hb rr)
 try replace HL := hI (HL.out.below hb rr)
 try replace HNN := hI (HNN.out.below hb rr)
 try replace HLA := hI (HLA.out.below hb rr)
 try replace HLB := hI (HLB.out.below hb rr)
 try replace HLC := hI (HLC.out.below hb rr)
 try replace HLD := hI (HLD.out.below hb rr)
 try replace HU := hI (HU.out.below hb rr)
 try replace HV := hI (HV.out.below hb rr)
 try replace HZ := hI (HZ.out.below hb rr)
 try clear hb
 have HLA := hI hl_; clear hl_
 go_wp2_with fail
 refine (exF_c _).mono ?_
 rintro e w17 ⟨af3, rfl, hl_, hb⟩
 replace HB0 := hI (HB0.out.trans (hb.mono HB0.out.size))
 try replace HT := hI (HT.out.below hb rr)
 try replace HAPA := hI (HAPA.out.below hb rr)
 try replace HX := hI (HX.out.below hb rr)
 try replace HY := hI (HY.out.below hb rr)
 try replace HL := hI (HL.out.below hb rr)
 try replace HNN := hI (HNN.out.below hb rr)
 try replace HLA := hI (HLA.out.below hb rr)
 try replace HLB := hI (HLB.out.below hb rr)
 try replace HLC := hI (HLC.out.below hb rr)
 try replace HLD := hI (HLD.out.below hb rr)
 try replace HU := hI (HU.out.below hb rr)
 try replace HV := hI (HV.out.below hb rr)
 try replace HZ := hI (HZ.out.below hb rr)
 try clear hb
 have HLB := hI hl_; clear hl_
 go_wp2_with (refine build_law2 rfl (.tmp 42) (.tmp 43) rfl ⟨vD, av3⟩ ⟨fD, af3⟩ rfl rfl ?_)
 have HLC := hI (built_laws2 w17 ⟨vD, av3⟩ ⟨fD, af3⟩ 34 HLA.out HLB.out)
 have hb : Below w17.heap.size w17 (w17.alloc (.cells ((LawR.mk vD av3).cells ++ (LawR.mk fD af3).cells).toArray 34)) := bel
 replace HB0 := hI (HB0.out.trans (hb.mono HB0.out.size))
 try replace HT := hI (HT.out.below hb rr)
 try replace HAPA := hI (HAPA.out.below hb rr)
 try replace HX := hI (HX.out.below hb rr)
 try replace HY := hI (HY.out.below hb rr)
 try replace HL := hI (HL.out.below hb rr)
 try replace HNN := hI (HNN.out.below hb rr)
 try replace HLA := hI (HLA.out.below hb rr)
 try replace HLB := hI (HLB.out.below hb rr)
 try replace HLC := hI (HLC.out.below hb rr)
 try replace HLD := hI (HLD.out.below hb rr)
 try replace HU := hI (HU.out.below hb rr)
 try replace HV := hI (HV.out.below hb rr)
 try replace HZ := hI (HZ.out.below hb rr)
 try clear hb
 generalize w17.alloc (.cells ((LawR.mk vD av3).cells ++ (LawR.mk fD af3).cells).toArray 34) = w18 at *
 clear HLA HLB
 refine (exP_c _).mono ?_
 rintro e w19 ⟨rfl, hb⟩
 replace HB0 := hI (HB0.out.trans (hb.mono HB0.out.size))
 try replace HT := hI (HT.out.below hb rr)
 try replace HAPA := hI (HAPA.out.below hb rr)
 try replace HX := hI (HX.out.below hb rr)
 try replace HY := hI (HY.out.below hb rr)
 try replace HL := hI (HL.out.below hb rr)
 try replace HNN := hI (HNN.out.below hb rr)
 try replace HLA := hI (HLA.out.below hb rr)
 try replace HLB := hI (HLB.out.below hb rr)
 try replace HLC := hI (HLC.out.below hb rr)
 try replace HLD := hI (HLD.out.below hb rr)
 try replace HU := hI (HU.out.below hb rr)
 try replace HV := hI (HV.out.below hb rr)
 try replace HZ := hI (HZ.out.below hb rr)
 try clear hb
 go_wp2_with fail
 refine (exA_c _).mono ?_
 rintro e w20 ⟨rfl, hb⟩
 replace HB0 := hI (HB0.out.trans (hb.mono HB0.out.size))
 try replace HT := hI (HT.out.below hb rr)
 try replace HAPA := hI (HAPA.out.below hb rr)
 try replace HX := hI (HX.out.below hb rr)
 try replace HY := hI (HY.out.below hb rr)
 try replace HL := hI (HL.out.below hb rr)
 try replace HNN := hI (HNN.out.below hb rr)
 try replace HLA := hI (HLA.out.below hb rr)
 try replace HLB := hI (HLB.out.below hb rr)
 try replace HLC := hI (HLC.out.below hb rr)
 try replace HLD := hI (HLD.out.below hb rr)
 try replace HU := hI (HU.out.below hb rr)
 try replace HV := hI (HV.out.below hb rr)
 try replace HZ := hI (HZ.out.below hb rr)
 try clear hb
 go_wp2_with fail
 refine (exP_c _).mono ?_
 rintro e w21 ⟨rfl, hb⟩
 replace HB0 := hI (HB0.out.trans (hb.mono HB0.out.size))
 try replace HT := hI (HT.out.below hb rr)
 try replace HAPA := hI (HAPA.out.below hb rr)
 try replace HX := hI (HX.out.below hb rr)
 try replace HY := hI (HY.out.below hb rr)
 try replace HL := hI (HL.out.below hb rr)
 try replace HNN := hI (HNN.out.below hb rr)
 try replace HLA := hI (HLA.out.below hb rr)
 try replace HLB := hI (HLB.out.below hb rr)
 try replace HLC := hI (HLC.out.below hb rr)
 try replace HLD := hI (HLD.out.below hb rr)
 try replace HU := hI (HU.out.below hb rr)
 try replace HV := hI (HV.out.below hb rr)
 try replace HZ := hI (HZ.out.below hb rr)
 try clear hb
 go_wp2_with fail
 have HU := hI (built_word w21 [sP, sA, sP] 24 (by simp))
 have hb : Below w21.heap.size w21 (w21.alloc (.cells (wcells [sP, sA, sP]).toArray 24)) := bel
 replace HB0 := hI (HB0.out.trans (hb.mono HB0.out.size))
 try replace HT := hI (HT.out.below hb rr)
 try replace HAPA := hI (HAPA.out.below hb rr)
 try replace HX := hI (HX.out.below hb rr)
 try replace HY := hI (HY.out.below hb rr)
 try replace HL := hI (HL.out.below hb rr)
 try replace HNN := hI (HNN.out.below hb rr)
 try replace HLA := hI (HLA.out.below hb rr)
 try replace HLB := hI (HLB.out.below hb rr)
 try replace HLC := hI (HLC.out.below hb rr)
 try replace HLD := hI (HLD.out.below hb rr)
 try replace HU := hI (HU.out.below hb rr)
 try replace HV := hI (HV.out.below hb rr)
 try replace HZ := hI (HZ.out.below hb rr)
 try clear hb
 rw [show w21.alloc (.cells #[.int .u32 sP.1, .int .u32 sP.2, .int .u32 sA.1, .int .u32 sA.2, .int .u32 sP.1, .int .u32 sP.2] 24) = w21.alloc (.cells (wcells [sP, sA, sP]).toArray 24) from rfl]
 generalize w21.alloc (.cells (wcells [sP, sA, sP]).toArray 24) = w22 at *
 refine (exP_c _).mono ?_
 rintro e w23 ⟨rfl, hb⟩
 replace HB0 := hI (HB0.out.trans (hb.mono HB0.out.size))
 try replace HT := hI (HT.out.below hb rr)
 try replace HAPA := hI (HAPA.out.below hb rr)
 try replace HX := hI (HX.out.below hb rr)
 try replace HY := hI (HY.out.below hb rr)
 try replace HL := hI (HL.out.below hb rr)
 try replace HNN := hI (HNN.out.below hb rr)
 try replace HLA := hI (HLA.out.below hb rr)
 try replace HLB := hI (HLB.out.below hb rr)
 try replace HLC := hI (HLC.out.below hb rr)
 try replace HLD := hI (HLD.out.below hb rr)
 try replace HU := hI (HU.out.below hb rr)
 try replace HV := hI (HV.out.below hb rr)
 try replace HZ := hI (HZ.out.below hb rr)
 try clear hb
 go_wp2_with fail
 refine (exA_c _).mono ?_
 rintro e w24 ⟨rfl, hb⟩
 replace HB0 := hI (HB0.out.trans (hb.mono HB0.out.size))
 try replace HT := hI (HT.out.below hb rr)
 try replace HAPA := hI (HAPA.out.below hb rr)
 try replace HX := hI (HX.out.below hb rr)
 try replace HY := hI (HY.out.below hb rr)
 try replace HL := hI (HL.out.below hb rr)
 try replace HNN := hI (HNN.out.below hb rr)
 try replace HLA := hI (HLA.out.below hb rr)
 try replace HLB := hI (HLB.out.below hb rr)
 try replace HLC := hI (HLC.out.below hb rr)
 try replace HLD := hI (HLD.out.below hb rr)
 try replace HU := hI (HU.out.below hb rr)
 try replace HV := hI (HV.out.below hb rr)
 try replace HZ := hI (HZ.out.below hb rr)
 try clear hb
 go_wp2_with fail
 have HV := hI (built_word w24 [sP, sA] 24 (by simp))
 have hb : Below w24.heap.size w24 (w24.alloc (.cells (wcells [sP, sA]).toArray 24)) := bel
 replace HB0 := hI (HB0.out.trans (hb.mono HB0.out.size))
 try replace HT := hI (HT.out.below hb rr)
 try replace HAPA := hI (HAPA.out.below hb rr)
 try replace HX := hI (HX.out.below hb rr)
 try replace HY := hI (HY.out.below hb rr)
 try replace HL := hI (HL.out.below hb rr)
 try replace HNN := hI (HNN.out.below hb rr)
 try replace HLA := hI (HLA.out.below hb rr)
 try replace HLB := hI (HLB.out.below hb rr)
 try replace HLC := hI (HLC.out.below hb rr)
 try replace HLD := hI (HLD.out.below hb rr)
 try replace HU := hI (HU.out.below hb rr)
 try replace HV := hI (HV.out.below hb rr)
 try replace HZ := hI (HZ.out.below hb rr)
 try clear hb
 rw [show w24.alloc (.cells #[.int .u32 sP.1, .int .u32 sP.2, .int .u32 sA.1, .int .u32 sA.2] 24) = w24.alloc (.cells (wcells [sP, sA]).toArray 24) from rfl, show w24.heap.size + 1 = (w24.alloc (.cells (wcells [sP, sA]).toArray 24)).heap.size by simp]
 generalize w24.alloc (.cells (wcells [sP, sA]).toArray 24) = w25 at *
 obtain ⟨k3, e3⟩ : ∃ k, k = w3.heap.size := ⟨_, rfl⟩
 obtain ⟨k21, e21⟩ : ∃ k, k = w21.heap.size := ⟨_, rfl⟩
 obtain ⟨k24, e24⟩ : ∃ k, k = w24.heap.size := ⟨_, rfl⟩
 rw [← e3, ← e21, ← e24]
 rw [← e3] at HAPA
 rw [← e21] at HU
 rw [← e24] at HV
 clear e3 e21 e24
 have HZ := hI (built_words w25 [(some ⟨k3, 0, none⟩, 3, 3, [sA, sP, sA]), (some ⟨k21, 0, none⟩, 3, 3, [sP, sA, sP]), (some ⟨k24, 0, none⟩, 2, 2, [sP, sA])] 32 (by simp) (fun p hp => by
  simp only [List.mem_cons, List.not_mem_nil, or_false] at hp
  rcases hp with rfl | rfl | rfl
  ·exact HAPA.out
  ·exact HU.out
  ·exact HV.out))
 have hb : Below w25.heap.size w25 (w25.alloc (.cells (([(some ⟨k3, 0, none⟩, 3, 3, [sA, sP, sA]), (some ⟨k21, 0, none⟩, 3, 3, [sP, sA, sP]), (some ⟨k24, 0, none⟩, 2, 2, [sP, sA])] : List Part).map Part.val).toArray 32)) := bel
 replace HB0 := hI (HB0.out.trans (hb.mono HB0.out.size))
 try replace HT := hI (HT.out.below hb rr)
 try replace HAPA := hI (HAPA.out.below hb rr)
 try replace HX := hI (HX.out.below hb rr)
 try replace HY := hI (HY.out.below hb rr)
 try replace HL := hI (HL.out.below hb rr)
 try replace HNN := hI (HNN.out.below hb rr)
 try replace HLA := hI (HLA.out.below hb rr)
 try replace HLB := hI (HLB.out.below hb rr)
 try replace HLC := hI (HLC.out.below hb rr)
 try replace HLD := hI (HLD.out.below hb rr)
 try replace HU := hI (HU.out.below hb rr)
 try replace HV := hI (HV.out.below hb rr)
 try replace HZ := hI (HZ.out.below hb rr)
 try clear hb
 rw [show w25.alloc (.cells #[.slice (some ⟨k3, 0, none⟩) 3 3, .slice (some ⟨k21, 0, none⟩) 3 3, .slice (some ⟨k24, 0, none⟩) 2 2] 32) = w25.alloc (.cells (([(some ⟨k3, 0, none⟩, 3, 3, [sA, sP, sA]), (some ⟨k21, 0, none⟩, 3, 3, [sP, sA, sP]), (some ⟨k24, 0, none⟩, 2, 2, [sP, sA])] : List Part).map Part.val).toArray 32) from rfl]
 generalize w25.alloc (.cells (([(some ⟨k3, 0, none⟩, 3, 3, [sA, sP, sA]), (some ⟨k21, 0, none⟩, 3, 3, [sP, sA, sP]), (some ⟨k24, 0, none⟩, 2, 2, [sP, sA])] : List Part).map Part.val).toArray 32) = w26 at *
 clear HU HV
 refine (used_c _ 2 2 [⟨vD, av3⟩, ⟨fD, af3⟩] _ 3 3 [[sA, sP, sA], [sP, sA, sP], [sP, sA]] w26 HLC.out HZ.out HT.out).mono ?_
 rw [show usedM (lawsD [⟨vD, av3⟩, ⟨fD, af3⟩]) [[sA, sP, sA], [sP, sA, sP], [sP, sA]] = (0, [1, 2]) from exm5]
 rintro e w27 ⟨An, nn, cn, rfl, hx_, hb⟩
 clear HLC HZ
 replace HB0 := hI (HB0.out.trans (hb.mono HB0.out.size))
 try replace HT := hI (HT.out.below hb rr)
 try replace HAPA := hI (HAPA.out.below hb rr)
 try replace HX := hI (HX.out.below hb rr)
 try replace HY := hI (HY.out.below hb rr)
 try replace HL := hI (HL.out.below hb rr)
 try replace HNN := hI (HNN.out.below hb rr)
 try replace HLA := hI (HLA.out.below hb rr)
 try replace HLB := hI (HLB.out.below hb rr)
 try replace HLC := hI (HLC.out.below hb rr)
 try replace HLD := hI (HLD.out.below hb rr)
 try replace HU := hI (HU.out.below hb rr)
 try replace HV := hI (HV.out.below hb rr)
 try replace HZ := hI (HZ.out.below hb rr)
 try clear hb
 have HNN := hI hx_; clear hx_
 go_wp2_with fail
 refine (exV_c _).mono ?_
 rintro e w28 ⟨av4, rfl, hl_, hb⟩
 replace HB0 := hI (HB0.out.trans (hb.mono HB0.out.size))
 try replace HT := hI (HT.out.below hb rr)
 try replace HAPA := hI (HAPA.out.below hb rr)
 try replace HX := hI (HX.out.below hb rr)
 try replace HY := hI (HY.out.below hb rr)
 try replace HL := hI (HL.out.below hb rr)
 try replace HNN := hI (HNN.out.below hb rr)
 try replace HLA := hI (HLA.out.below hb rr)
 try replace HLB := hI (HLB.out.below hb rr)
 try replace HLC := hI (HLC.out.below hb rr)
 try replace HLD := hI (HLD.out.below hb rr)
 try replace HU := hI (HU.out.below hb rr)
 try replace HV := hI (HV.out.below hb rr)
 try replace HZ := hI (HZ.out.below hb rr)
 try clear hb
 have HLA := hI hl_; clear hl_
 go_wp2_with fail
 refine (exF_c _).mono ?_
 rintro e w29 ⟨af4, rfl, hl_, hb⟩
 replace HB0 := hI (HB0.out.trans (hb.mono HB0.out.size))
 try replace HT := hI (HT.out.below hb rr)
 try replace HAPA := hI (HAPA.out.below hb rr)
 try replace HX := hI (HX.out.below hb rr)
 try replace HY := hI (HY.out.below hb rr)
 try replace HL := hI (HL.out.below hb rr)
 try replace HNN := hI (HNN.out.below hb rr)
 try replace HLA := hI (HLA.out.below hb rr)
 try replace HLB := hI (HLB.out.below hb rr)
 try replace HLC := hI (HLC.out.below hb rr)
 try replace HLD := hI (HLD.out.below hb rr)
 try replace HU := hI (HU.out.below hb rr)
 try replace HV := hI (HV.out.below hb rr)
 try replace HZ := hI (HZ.out.below hb rr)
 try clear hb
 have HLB := hI hl_; clear hl_
 go_wp2_with (refine build_law2 rfl (.tmp 58) (.tmp 59) rfl ⟨vD, av4⟩ ⟨fD, af4⟩ rfl rfl ?_)
 have HLC := hI (built_laws2 w29 ⟨vD, av4⟩ ⟨fD, af4⟩ 34 HLA.out HLB.out)
 have hb : Below w29.heap.size w29 (w29.alloc (.cells ((LawR.mk vD av4).cells ++ (LawR.mk fD af4).cells).toArray 34)) := bel
 replace HB0 := hI (HB0.out.trans (hb.mono HB0.out.size))
 try replace HT := hI (HT.out.below hb rr)
 try replace HAPA := hI (HAPA.out.below hb rr)
 try replace HX := hI (HX.out.below hb rr)
 try replace HY := hI (HY.out.below hb rr)
 try replace HL := hI (HL.out.below hb rr)
 try replace HNN := hI (HNN.out.below hb rr)
 try replace HLA := hI (HLA.out.below hb rr)
 try replace HLB := hI (HLB.out.below hb rr)
 try replace HLC := hI (HLC.out.below hb rr)
 try replace HLD := hI (HLD.out.below hb rr)
 try replace HU := hI (HU.out.below hb rr)
 try replace HV := hI (HV.out.below hb rr)
 try replace HZ := hI (HZ.out.below hb rr)
 try clear hb
 generalize w29.alloc (.cells ((LawR.mk vD av4).cells ++ (LawR.mk fD af4).cells).toArray 34) = w30 at *
 clear HLA HLB
 refine (exF_c _).mono ?_
 rintro e w31 ⟨af5, rfl, hl_, hb⟩
 replace HB0 := hI (HB0.out.trans (hb.mono HB0.out.size))
 try replace HT := hI (HT.out.below hb rr)
 try replace HAPA := hI (HAPA.out.below hb rr)
 try replace HX := hI (HX.out.below hb rr)
 try replace HY := hI (HY.out.below hb rr)
 try replace HL := hI (HL.out.below hb rr)
 try replace HNN := hI (HNN.out.below hb rr)
 try replace HLA := hI (HLA.out.below hb rr)
 try replace HLB := hI (HLB.out.below hb rr)
 try replace HLC := hI (HLC.out.below hb rr)
 try replace HLD := hI (HLD.out.below hb rr)
 try replace HU := hI (HU.out.below hb rr)
 try replace HV := hI (HV.out.below hb rr)
 try replace HZ := hI (HZ.out.below hb rr)
 try clear hb
 have HLA := hI hl_; clear hl_
 go_wp2_with fail
 refine (exV_c _).mono ?_
 rintro e w32 ⟨av5, rfl, hl_, hb⟩
 replace HB0 := hI (HB0.out.trans (hb.mono HB0.out.size))
 try replace HT := hI (HT.out.below hb rr)
 try replace HAPA := hI (HAPA.out.below hb rr)
 try replace HX := hI (HX.out.below hb rr)
 try replace HY := hI (HY.out.below hb rr)
 try replace HL := hI (HL.out.below hb rr)
 try replace HNN := hI (HNN.out.below hb rr)
 try replace HLA := hI (HLA.out.below hb rr)
 try replace HLB := hI (HLB.out.below hb rr)
 try replace HLC := hI (HLC.out.below hb rr)
 try replace HLD := hI (HLD.out.below hb rr)
 try replace HU := hI (HU.out.below hb rr)
 try replace HV := hI (HV.out.below hb rr)
 try replace HZ := hI (HZ.out.below hb rr)
 try clear hb
 have HLB := hI hl_; clear hl_
 go_wp2_with (refine build_law2 rfl (.tmp 61) (.tmp 62) rfl ⟨fD, af5⟩ ⟨vD, av5⟩ rfl rfl ?_)
 have HLD := hI (built_laws2 w32 ⟨fD, af5⟩ ⟨vD, av5⟩ 34 HLA.out HLB.out)
 have hb : Below w32.heap.size w32 (w32.alloc (.cells ((LawR.mk fD af5).cells ++ (LawR.mk vD av5).cells).toArray 34)) := bel
 replace HB0 := hI (HB0.out.trans (hb.mono HB0.out.size))
 try replace HT := hI (HT.out.below hb rr)
 try replace HAPA := hI (HAPA.out.below hb rr)
 try replace HX := hI (HX.out.below hb rr)
 try replace HY := hI (HY.out.below hb rr)
 try replace HL := hI (HL.out.below hb rr)
 try replace HNN := hI (HNN.out.below hb rr)
 try replace HLA := hI (HLA.out.below hb rr)
 try replace HLB := hI (HLB.out.below hb rr)
 try replace HLC := hI (HLC.out.below hb rr)
 try replace HLD := hI (HLD.out.below hb rr)
 try replace HU := hI (HU.out.below hb rr)
 try replace HV := hI (HV.out.below hb rr)
 try replace HZ := hI (HZ.out.below hb rr)
 try clear hb
 generalize w32.alloc (.cells ((LawR.mk fD af5).cells ++ (LawR.mk vD av5).cells).toArray 34) = w33 at *
 clear HLA HLB
 refine (split_c _ 2 2 [⟨vD, av4⟩, ⟨fD, af4⟩] _ 2 2 [⟨fD, af5⟩, ⟨vD, av5⟩] _ 3 3 [sA, sP, sA] w33 HLC.out HLD.out HAPA.out HT.out).mono ?_
 rw [show splitM (lawsD [⟨vD, av4⟩, ⟨fD, af4⟩]) (lawsD [⟨fD, af5⟩, ⟨vD, av5⟩]) [sA, sP, sA] = (1, true, 0) from exm4]
 rintro e w34 ⟨rfl, hb⟩
 clear HLC HLD
 replace HB0 := hI (HB0.out.trans (hb.mono HB0.out.size))
 try replace HT := hI (HT.out.below hb rr)
 try replace HAPA := hI (HAPA.out.below hb rr)
 try replace HX := hI (HX.out.below hb rr)
 try replace HY := hI (HY.out.below hb rr)
 try replace HL := hI (HL.out.below hb rr)
 try replace HNN := hI (HNN.out.below hb rr)
 try replace HLA := hI (HLA.out.below hb rr)
 try replace HLB := hI (HLB.out.below hb rr)
 try replace HLC := hI (HLC.out.below hb rr)
 try replace HLD := hI (HLD.out.below hb rr)
 try replace HU := hI (HU.out.below hb rr)
 try replace HV := hI (HV.out.below hb rr)
 try replace HZ := hI (HZ.out.below hb rr)
 try clear hb
 go_wp2_with fail
 refine (exA_c _).mono ?_
 rintro e w35 ⟨rfl, hb⟩
 replace HB0 := hI (HB0.out.trans (hb.mono HB0.out.size))
 try replace HT := hI (HT.out.below hb rr)
 try replace HAPA := hI (HAPA.out.below hb rr)
 try replace HX := hI (HX.out.below hb rr)
 try replace HY := hI (HY.out.below hb rr)
 try replace HL := hI (HL.out.below hb rr)
 try replace HNN := hI (HNN.out.below hb rr)
 try replace HLA := hI (HLA.out.below hb rr)
 try replace HLB := hI (HLB.out.below hb rr)
 try replace HLC := hI (HLC.out.below hb rr)
 try replace HLD := hI (HLD.out.below hb rr)
 try replace HU := hI (HU.out.below hb rr)
 try replace HV := hI (HV.out.below hb rr)
 try replace HZ := hI (HZ.out.below hb rr)
 try clear hb
 go_wp2_with fail
 refine (exB_c _).mono ?_
 rintro e w36 ⟨rfl, hb⟩
 replace HB0 := hI (HB0.out.trans (hb.mono HB0.out.size))
 try replace HT := hI (HT.out.below hb rr)
 try replace HAPA := hI (HAPA.out.below hb rr)
 try replace HX := hI (HX.out.below hb rr)
 try replace HY := hI (HY.out.below hb rr)
 try replace HL := hI (HL.out.below hb rr)
 try replace HNN := hI (HNN.out.below hb rr)
 try replace HLA := hI (HLA.out.below hb rr)
 try replace HLB := hI (HLB.out.below hb rr)
 try replace HLC := hI (HLC.out.below hb rr)
 try replace HLD := hI (HLD.out.below hb rr)
 try replace HU := hI (HU.out.below hb rr)
 try replace HV := hI (HV.out.below hb rr)
 try replace HZ := hI (HZ.out.below hb rr)
 try clear hb
 go_wp2_with fail
 have HU := hI (built_word w36 [sA, sB] 24 (by simp))
 have hb : Below w36.heap.size w36 (w36.alloc (.cells (wcells [sA, sB]).toArray 24)) := bel
 replace HB0 := hI (HB0.out.trans (hb.mono HB0.out.size))
 try replace HT := hI (HT.out.below hb rr)
 try replace HAPA := hI (HAPA.out.below hb rr)
 try replace HX := hI (HX.out.below hb rr)
 try replace HY := hI (HY.out.below hb rr)
 try replace HL := hI (HL.out.below hb rr)
 try replace HNN := hI (HNN.out.below hb rr)
 try replace HLA := hI (HLA.out.below hb rr)
 try replace HLB := hI (HLB.out.below hb rr)
 try replace HLC := hI (HLC.out.below hb rr)
 try replace HLD := hI (HLD.out.below hb rr)
 try replace HU := hI (HU.out.below hb rr)
 try replace HV := hI (HV.out.below hb rr)
 try replace HZ := hI (HZ.out.below hb rr)
 try clear hb
 rw [show w36.alloc (.cells #[.int .u32 sA.1, .int .u32 sA.2, .int .u32 sB.1, .int .u32 sB.2] 24) = w36.alloc (.cells (wcells [sA, sB]).toArray 24) from rfl]
 generalize w36.alloc (.cells (wcells [sA, sB]).toArray 24) = w37 at *
 refine (rEqual_c Ax _ nx 2 cx 2 [sA, sB] [sA, sB] w37 HX.out HU.out).mono ?_
 rw [show decide ([sA, sB] = [sA, sB]) = true from decide_eq_true rfl]
 rintro e w38 ⟨rfl, hb⟩
 clear HU HX
 replace HB0 := hI (HB0.out.trans (hb.mono HB0.out.size))
 try replace HT := hI (HT.out.below hb rr)
 try replace HAPA := hI (HAPA.out.below hb rr)
 try replace HX := hI (HX.out.below hb rr)
 try replace HY := hI (HY.out.below hb rr)
 try replace HL := hI (HL.out.below hb rr)
 try replace HNN := hI (HNN.out.below hb rr)
 try replace HLA := hI (HLA.out.below hb rr)
 try replace HLB := hI (HLB.out.below hb rr)
 try replace HLC := hI (HLC.out.below hb rr)
 try replace HLD := hI (HLD.out.below hb rr)
 try replace HU := hI (HU.out.below hb rr)
 try replace HV := hI (HV.out.below hb rr)
 try replace HZ := hI (HZ.out.below hb rr)
 try clear hb
 go_wp2_with fail
 refine (exA_c _).mono ?_
 rintro e w39 ⟨rfl, hb⟩
 replace HB0 := hI (HB0.out.trans (hb.mono HB0.out.size))
 try replace HT := hI (HT.out.below hb rr)
 try replace HAPA := hI (HAPA.out.below hb rr)
 try replace HX := hI (HX.out.below hb rr)
 try replace HY := hI (HY.out.below hb rr)
 try replace HL := hI (HL.out.below hb rr)
 try replace HNN := hI (HNN.out.below hb rr)
 try replace HLA := hI (HLA.out.below hb rr)
 try replace HLB := hI (HLB.out.below hb rr)
 try replace HLC := hI (HLC.out.below hb rr)
 try replace HLD := hI (HLD.out.below hb rr)
 try replace HU := hI (HU.out.below hb rr)
 try replace HV := hI (HV.out.below hb rr)
 try replace HZ := hI (HZ.out.below hb rr)
 try clear hb
 go_wp2_with fail
 refine (exP_c _).mono ?_
 rintro e w40 ⟨rfl, hb⟩
 replace HB0 := hI (HB0.out.trans (hb.mono HB0.out.size))
 try replace HT := hI (HT.out.below hb rr)
 try replace HAPA := hI (HAPA.out.below hb rr)
 try replace HX := hI (HX.out.below hb rr)
 try replace HY := hI (HY.out.below hb rr)
 try replace HL := hI (HL.out.below hb rr)
 try replace HNN := hI (HNN.out.below hb rr)
 try replace HLA := hI (HLA.out.below hb rr)
 try replace HLB := hI (HLB.out.below hb rr)
 try replace HLC := hI (HLC.out.below hb rr)
 try replace HLD := hI (HLD.out.below hb rr)
 try replace HU := hI (HU.out.below hb rr)
 try replace HV := hI (HV.out.below hb rr)
 try replace HZ := hI (HZ.out.below hb rr)
 try clear hb
 go_wp2_with fail
 have HU := hI (built_word w40 [sA, sP] 24 (by simp))
 have hb : Below w40.heap.size w40 (w40.alloc (.cells (wcells [sA, sP]).toArray 24)) := bel
 replace HB0 := hI (HB0.out.trans (hb.mono HB0.out.size))
 try replace HT := hI (HT.out.below hb rr)
 try replace HAPA := hI (HAPA.out.below hb rr)
 try replace HX := hI (HX.out.below hb rr)
 try replace HY := hI (HY.out.below hb rr)
 try replace HL := hI (HL.out.below hb rr)
 try replace HNN := hI (HNN.out.below hb rr)
 try replace HLA := hI (HLA.out.below hb rr)
 try replace HLB := hI (HLB.out.below hb rr)
 try replace HLC := hI (HLC.out.below hb rr)
 try replace HLD := hI (HLD.out.below hb rr)
 try replace HU := hI (HU.out.below hb rr)
 try replace HV := hI (HV.out.below hb rr)
 try replace HZ := hI (HZ.out.below hb rr)
 try clear hb
 rw [show w40.alloc (.cells #[.int .u32 sA.1, .int .u32 sA.2, .int .u32 sP.1, .int .u32 sP.2] 24) = w40.alloc (.cells (wcells [sA, sP]).toArray 24) from rfl]
 generalize w40.alloc (.cells (wcells [sA, sP]).toArray 24) = w41 at *
 refine (rEqual_c Ay _ ny 2 cy 2 [sA, sP] [sA, sP] w41 HY.out HU.out).mono ?_
 rw [show decide ([sA, sP] = [sA, sP]) = true from decide_eq_true rfl]
 rintro e w42 ⟨rfl, hb⟩
 clear HU HY
 replace HB0 := hI (HB0.out.trans (hb.mono HB0.out.size))
 try replace HT := hI (HT.out.below hb rr)
 try replace HAPA := hI (HAPA.out.below hb rr)
 try replace HX := hI (HX.out.below hb rr)
 try replace HY := hI (HY.out.below hb rr)
 try replace HL := hI (HL.out.below hb rr)
 try replace HNN := hI (HNN.out.below hb rr)
 try replace HLA := hI (HLA.out.below hb rr)
 try replace HLB := hI (HLB.out.below hb rr)
 try replace HLC := hI (HLC.out.below hb rr)
 try replace HLD := hI (HLD.out.below hb rr)
 try replace HU := hI (HU.out.below hb rr)
 try replace HV := hI (HV.out.below hb rr)
 try replace HZ := hI (HZ.out.below hb rr)
 try clear hb
 go_wp2_with fail
 refine (exA_c _).mono ?_
 rintro e w43 ⟨rfl, hb⟩
 replace HB0 := hI (HB0.out.trans (hb.mono HB0.out.size))
 try replace HT := hI (HT.out.below hb rr)
 try replace HAPA := hI (HAPA.out.below hb rr)
 try replace HX := hI (HX.out.below hb rr)
 try replace HY := hI (HY.out.below hb rr)
 try replace HL := hI (HL.out.below hb rr)
 try replace HNN := hI (HNN.out.below hb rr)
 try replace HLA := hI (HLA.out.below hb rr)
 try replace HLB := hI (HLB.out.below hb rr)
 try replace HLC := hI (HLC.out.below hb rr)
 try replace HLD := hI (HLD.out.below hb rr)
 try replace HU := hI (HU.out.below hb rr)
 try replace HV := hI (HV.out.below hb rr)
 try replace HZ := hI (HZ.out.below hb rr)
 try clear hb
 go_wp2_with fail
 refine (exP_c _).mono ?_
 rintro e w44 ⟨rfl, hb⟩
 replace HB0 := hI (HB0.out.trans (hb.mono HB0.out.size))
 try replace HT := hI (HT.out.below hb rr)
 try replace HAPA := hI (HAPA.out.below hb rr)
 try replace HX := hI (HX.out.below hb rr)
 try replace HY := hI (HY.out.below hb rr)
 try replace HL := hI (HL.out.below hb rr)
 try replace HNN := hI (HNN.out.below hb rr)
 try replace HLA := hI (HLA.out.below hb rr)
 try replace HLB := hI (HLB.out.below hb rr)
 try replace HLC := hI (HLC.out.below hb rr)
 try replace HLD := hI (HLD.out.below hb rr)
 try replace HU := hI (HU.out.below hb rr)
 try replace HV := hI (HV.out.below hb rr)
 try replace HZ := hI (HZ.out.below hb rr)
 try clear hb
 go_wp2_with fail
 have HU := hI (built_word w44 [sA, sP] 24 (by simp))
 have hb : Below w44.heap.size w44 (w44.alloc (.cells (wcells [sA, sP]).toArray 24)) := bel
 replace HB0 := hI (HB0.out.trans (hb.mono HB0.out.size))
 try replace HT := hI (HT.out.below hb rr)
 try replace HAPA := hI (HAPA.out.below hb rr)
 try replace HX := hI (HX.out.below hb rr)
 try replace HY := hI (HY.out.below hb rr)
 try replace HL := hI (HL.out.below hb rr)
 try replace HNN := hI (HNN.out.below hb rr)
 try replace HLA := hI (HLA.out.below hb rr)
 try replace HLB := hI (HLB.out.below hb rr)
 try replace HLC := hI (HLC.out.below hb rr)
 try replace HLD := hI (HLD.out.below hb rr)
 try replace HU := hI (HU.out.below hb rr)
 try replace HV := hI (HV.out.below hb rr)
 try replace HZ := hI (HZ.out.below hb rr)
 try clear hb
 rw [show w44.alloc (.cells #[.int .u32 sA.1, .int .u32 sA.2, .int .u32 sP.1, .int .u32 sP.2] 24) = w44.alloc (.cells (wcells [sA, sP]).toArray 24) from rfl]
 generalize w44.alloc (.cells (wcells [sA, sP]).toArray 24) = w45 at *
 refine (exA_c _).mono ?_
 rintro e w46 ⟨rfl, hb⟩
 replace HB0 := hI (HB0.out.trans (hb.mono HB0.out.size))
 try replace HT := hI (HT.out.below hb rr)
 try replace HAPA := hI (HAPA.out.below hb rr)
 try replace HX := hI (HX.out.below hb rr)
 try replace HY := hI (HY.out.below hb rr)
 try replace HL := hI (HL.out.below hb rr)
 try replace HNN := hI (HNN.out.below hb rr)
 try replace HLA := hI (HLA.out.below hb rr)
 try replace HLB := hI (HLB.out.below hb rr)
 try replace HLC := hI (HLC.out.below hb rr)
 try replace HLD := hI (HLD.out.below hb rr)
 try replace HU := hI (HU.out.below hb rr)
 try replace HV := hI (HV.out.below hb rr)
 try replace HZ := hI (HZ.out.below hb rr)
 try clear hb
 go_wp2_with fail
 refine (exP_c _).mono ?_
 rintro e w47 ⟨rfl, hb⟩
 replace HB0 := hI (HB0.out.trans (hb.mono HB0.out.size))
 try replace HT := hI (HT.out.below hb rr)
 try replace HAPA := hI (HAPA.out.below hb rr)
 try replace HX := hI (HX.out.below hb rr)
 try replace HY := hI (HY.out.below hb rr)
 try replace HL := hI (HL.out.below hb rr)
 try replace HNN := hI (HNN.out.below hb rr)
 try replace HLA := hI (HLA.out.below hb rr)
 try replace HLB := hI (HLB.out.below hb rr)
 try replace HLC := hI (HLC.out.below hb rr)
 try replace HLD := hI (HLD.out.below hb rr)
 try replace HU := hI (HU.out.below hb rr)
 try replace HV := hI (HV.out.below hb rr)
 try replace HZ := hI (HZ.out.below hb rr)
 try clear hb
 go_wp2_with fail
 have HV := hI (built_word w47 [sA, sP] 24 (by simp))
 have hb : Below w47.heap.size w47 (w47.alloc (.cells (wcells [sA, sP]).toArray 24)) := bel
 replace HB0 := hI (HB0.out.trans (hb.mono HB0.out.size))
 try replace HT := hI (HT.out.below hb rr)
 try replace HAPA := hI (HAPA.out.below hb rr)
 try replace HX := hI (HX.out.below hb rr)
 try replace HY := hI (HY.out.below hb rr)
 try replace HL := hI (HL.out.below hb rr)
 try replace HNN := hI (HNN.out.below hb rr)
 try replace HLA := hI (HLA.out.below hb rr)
 try replace HLB := hI (HLB.out.below hb rr)
 try replace HLC := hI (HLC.out.below hb rr)
 try replace HLD := hI (HLD.out.below hb rr)
 try replace HU := hI (HU.out.below hb rr)
 try replace HV := hI (HV.out.below hb rr)
 try replace HZ := hI (HZ.out.below hb rr)
 try clear hb
 rw [show w47.alloc (.cells #[.int .u32 sA.1, .int .u32 sA.2, .int .u32 sP.1, .int .u32 sP.2] 24) = w47.alloc (.cells (wcells [sA, sP]).toArray 24) from rfl, show w47.heap.size + 1 = (w47.alloc (.cells (wcells [sA, sP]).toArray 24)).heap.size by simp]
 generalize w47.alloc (.cells (wcells [sA, sP]).toArray 24) = w48 at *
 obtain ⟨k44, e44⟩ : ∃ k, k = w44.heap.size := ⟨_, rfl⟩
 obtain ⟨k47, e47⟩ : ∃ k, k = w47.heap.size := ⟨_, rfl⟩
 rw [← e44, ← e47]
 rw [← e44] at HU
 rw [← e47] at HV
 clear e44 e47
 have HZ := hI (built_words w48 [(some ⟨k3, 0, none⟩, 3, 3, [sA, sP, sA]), (some ⟨k44, 0, none⟩, 2, 2, [sA, sP]), (some ⟨k47, 0, none⟩, 2, 2, [sA, sP])] 32 (by simp) (fun p hp => by
  simp only [List.mem_cons, List.not_mem_nil, or_false] at hp
  rcases hp with rfl | rfl | rfl
  ·exact HAPA.out
  ·exact HU.out
  ·exact HV.out))
 have hb : Below w48.heap.size w48 (w48.alloc (.cells (([(some ⟨k3, 0, none⟩, 3, 3, [sA, sP, sA]), (some ⟨k44, 0, none⟩, 2, 2, [sA, sP]), (some ⟨k47, 0, none⟩, 2, 2, [sA, sP])] : List Part).map Part.val).toArray 32)) := bel
 replace HB0 := hI (HB0.out.trans (hb.mono HB0.out.size))
 try replace HT := hI (HT.out.below hb rr)
 try replace HAPA := hI (HAPA.out.below hb rr)
 try replace HX := hI (HX.out.below hb rr)
 try replace HY := hI (HY.out.below hb rr)
 try replace HL := hI (HL.out.below hb rr)
 try replace HNN := hI (HNN.out.below hb rr)
 try replace HLA := hI (HLA.out.below hb rr)
 try replace HLB := hI (HLB.out.below hb rr)
 try replace HLC := hI (HLC.out.below hb rr)
 try replace HLD := hI (HLD.out.below hb rr)
 try replace HU := hI (HU.out.below hb rr)
 try replace HV := hI (HV.out.below hb rr)
 try replace HZ := hI (HZ.out.below hb rr)
 try clear hb
 rw [show w48.alloc (.cells #[.slice (some ⟨k3, 0, none⟩) 3 3, .slice (some ⟨k44, 0, none⟩) 2 2, .slice (some ⟨k47, 0, none⟩) 2 2] 32) = w48.alloc (.cells (([(some ⟨k3, 0, none⟩, 3, 3, [sA, sP, sA]), (some ⟨k44, 0, none⟩, 2, 2, [sA, sP]), (some ⟨k47, 0, none⟩, 2, 2, [sA, sP])] : List Part).map Part.val).toArray 32) from rfl]
 generalize w48.alloc (.cells (([(some ⟨k3, 0, none⟩, 3, 3, [sA, sP, sA]), (some ⟨k44, 0, none⟩, 2, 2, [sA, sP]), (some ⟨k47, 0, none⟩, 2, 2, [sA, sP])] : List Part).map Part.val).toArray 32) = w49 at *
 clear HU HV
 refine (rSame_c Al _ nl 3 cl 3 [[sA, sP, sA], [sA, sP], [sA, sP]] [[sA, sP, sA], [sA, sP], [sA, sP]] w49 HL.out HZ.out).mono ?_
 rw [show decide ([[sA, sP, sA], [sA, sP], [sA, sP]] = [[sA, sP, sA], [sA, sP], [sA, sP]]) = true from decide_eq_true rfl]
 rintro e w50 ⟨rfl, hb⟩
 clear HZ HL
 replace HB0 := hI (HB0.out.trans (hb.mono HB0.out.size))
 try replace HT := hI (HT.out.below hb rr)
 try replace HAPA := hI (HAPA.out.below hb rr)
 try replace HX := hI (HX.out.below hb rr)
 try replace HY := hI (HY.out.below hb rr)
 try replace HL := hI (HL.out.below hb rr)
 try replace HNN := hI (HNN.out.below hb rr)
 try replace HLA := hI (HLA.out.below hb rr)
 try replace HLB := hI (HLB.out.below hb rr)
 try replace HLC := hI (HLC.out.below hb rr)
 try replace HLD := hI (HLD.out.below hb rr)
 try replace HU := hI (HU.out.below hb rr)
 try replace HV := hI (HV.out.below hb rr)
 try replace HZ := hI (HZ.out.below hb rr)
 try clear hb
 go_wp2_with fail
 have HW := hI (built_ints w50 [1, 2] 3 (by simp))
 have hb : Below w50.heap.size w50 (w50.alloc (.cells (([1, 2] : List Int).map (Value.int .i64)).toArray 3)) := bel
 replace HB0 := hI (HB0.out.trans (hb.mono HB0.out.size))
 try replace HT := hI (HT.out.below hb rr)
 try replace HAPA := hI (HAPA.out.below hb rr)
 try replace HX := hI (HX.out.below hb rr)
 try replace HY := hI (HY.out.below hb rr)
 try replace HL := hI (HL.out.below hb rr)
 try replace HNN := hI (HNN.out.below hb rr)
 try replace HLA := hI (HLA.out.below hb rr)
 try replace HLB := hI (HLB.out.below hb rr)
 try replace HLC := hI (HLC.out.below hb rr)
 try replace HLD := hI (HLD.out.below hb rr)
 try replace HU := hI (HU.out.below hb rr)
 try replace HV := hI (HV.out.below hb rr)
 try replace HZ := hI (HZ.out.below hb rr)
 try clear hb
 rw [show w50.alloc (.cells #[.int .i64 1, .int .i64 2] 3) = w50.alloc (.cells (([1, 2] : List Int).map (Value.int .i64)).toArray 3) from rfl]
 generalize w50.alloc (.cells (([1, 2] : List Int).map (Value.int .i64)).toArray 3) = w51 at *
 refine (numbers_c An _ nn 2 cn 2 [1, 2] [1, 2] w51 HNN.out HW.out).mono ?_
 rw [show decide (([1, 2] : List Int) = [1, 2]) = true from decide_eq_true rfl]
 rintro e w52 ⟨rfl, hb⟩
 clear HW HNN
 replace HB0 := hI (HB0.out.trans (hb.mono HB0.out.size))
 try replace HT := hI (HT.out.below hb rr)
 try replace HAPA := hI (HAPA.out.below hb rr)
 try replace HX := hI (HX.out.below hb rr)
 try replace HY := hI (HY.out.below hb rr)
 try replace HL := hI (HL.out.below hb rr)
 try replace HNN := hI (HNN.out.below hb rr)
 try replace HLA := hI (HLA.out.below hb rr)
 try replace HLB := hI (HLB.out.below hb rr)
 try replace HLC := hI (HLC.out.below hb rr)
 try replace HLD := hI (HLD.out.below hb rr)
 try replace HU := hI (HU.out.below hb rr)
 try replace HV := hI (HV.out.below hb rr)
 try replace HZ := hI (HZ.out.below hb rr)
 try clear hb
 go_wp2
 go_ret
 exact ⟨rfl, HB0.out⟩
end Go.Proofs.YtlgliddhideflaaGreatDoor

/-
  The examples of the chapter hold.
-/
import Derived.Test.YtfgilinjaldhhaaGreatDoorG16
set_option linter.unusedVariables false
set_option linter.unusedSimpArgs false
namespace Go.Proofs.YtfgilinjaldhhaaGreatDoor
open Go.RowKit Go.Shelf

theorem built_word (w : World) (xs : List Snd) (t : TypeId) (hn : xs.length ≤ 4096) : IsWord (w.alloc (.cells (wcells xs).toArray t)) (some ⟨w.heap.size, 0, none⟩) xs.length xs.length xs :=
  ⟨wcells_length xs, Nat.le_refl _, by unfold maxLen; omega, (fun h => by cases h), fun _ => ⟨w.heap.size, 0, rfl, by simp, fun j v hv => by rw [Nat.zero_add]; exact cell_new_at (by simpa using hv)⟩⟩
theorem built_words (w : World) (ps : List Part) (t : TypeId) (hn : ps.length ≤ 4096) (hp : Parts w ps) : IsWords (w.alloc (.cells (ps.map Part.val).toArray t)) (some ⟨w.heap.size, 0, none⟩) ps.length ps.length (ps.map Part.word) :=
  ⟨ps, rfl, ⟨by simp, Nat.le_refl _, by unfold maxLen; omega, (fun h => by cases h), fun _ => ⟨w.heap.size, 0, rfl, by simp, fun j v hv => by rw [Nat.zero_add]; exact cell_new_at (by simpa using hv)⟩⟩,
    fun p hp' => (hp p hp').below ((Below.refl w.heap.size w).alloc (Nat.le_refl _) _) (Nat.le_refl _)⟩
theorem built_ints (w : World) (l : List Int) (t : TypeId) (hn : l.length ≤ 4096) : IsInts (w.alloc (.cells (l.map (Value.int .i64)).toArray t)) (some ⟨w.heap.size, 0, none⟩) l.length l.length l :=
  ⟨by simp, Nat.le_refl _, by unfold maxLen; omega, (fun h => by cases h), fun _ => ⟨w.heap.size, 0, rfl, by simp, fun j v hv => by rw [Nat.zero_add]; exact cell_new_at (by simpa using hv)⟩⟩

theorem exm1 : deriveM [vD, fD] [sA, sP, sA] = (0, [sA, sB]) := by kernel_rfl
theorem exm2 : deriveM [fD, vD] [sA, sP, sA] = (0, [sA, sP]) := by kernel_rfl
theorem exm3 : formsE [fD, vD] [sA, sP, sA] = (0, [[sA, sP, sA], [sA, sP], [sA, sP]]) := by kernel_rfl
theorem exm4 : splitM [vD, fD] [fD, vD] [sA, sP, sA] = (1, true, 0) := by kernel_rfl
theorem exm5 : usedM [vD, fD] [[sA, sP, sA], [sP, sA, sP], [sP, sA]] = (0, [1, 2]) := by kernel_rfl


set_option maxRecDepth 100000 in
set_option maxHeartbeats 4000000 in
theorem works_c (w : World) (hT : TabOK w) : Calls Tryz.prog 14 #[] w fun e w' => e = .returned (.bool true) ∧ Below w.heap.size w w' := by
  have HT := Lib.hid hT; clear hT
  have HB0 := Lib.hid (Below.refl w.heap.size w)
  go_enter Tryz.func14, Tryz.ntmps14
  go_wp2_with fail
  refine (exA_c _).mono ?_
  rintro e w1 ⟨rfl, hb⟩
  replace HB0 := Lib.hid (HB0.out.trans (hb.mono HB0.out.size))
  try replace HT := Lib.hid (HT.out.below hb (Nat.le_refl _))
  try replace HAPA := Lib.hid (HAPA.out.below hb (Nat.le_refl _))
  try replace HX := Lib.hid (HX.out.below hb (Nat.le_refl _))
  try replace HY := Lib.hid (HY.out.below hb (Nat.le_refl _))
  try replace HL := Lib.hid (HL.out.below hb (Nat.le_refl _))
  try replace HNN := Lib.hid (HNN.out.below hb (Nat.le_refl _))
  try replace HLA := Lib.hid (HLA.out.below hb (Nat.le_refl _))
  try replace HLB := Lib.hid (HLB.out.below hb (Nat.le_refl _))
  try replace HLC := Lib.hid (HLC.out.below hb (Nat.le_refl _))
  try replace HLD := Lib.hid (HLD.out.below hb (Nat.le_refl _))
  try replace HU := Lib.hid (HU.out.below hb (Nat.le_refl _))
  try replace HV := Lib.hid (HV.out.below hb (Nat.le_refl _))
  try replace HZ := Lib.hid (HZ.out.below hb (Nat.le_refl _))
  try clear hb
  go_wp2_with fail
  refine (exP_c _).mono ?_
  rintro e w2 ⟨rfl, hb⟩
  replace HB0 := Lib.hid (HB0.out.trans (hb.mono HB0.out.size))
  try replace HT := Lib.hid (HT.out.below hb (Nat.le_refl _))
  try replace HAPA := Lib.hid (HAPA.out.below hb (Nat.le_refl _))
  try replace HX := Lib.hid (HX.out.below hb (Nat.le_refl _))
  try replace HY := Lib.hid (HY.out.below hb (Nat.le_refl _))
  try replace HL := Lib.hid (HL.out.below hb (Nat.le_refl _))
  try replace HNN := Lib.hid (HNN.out.below hb (Nat.le_refl _))
  try replace HLA := Lib.hid (HLA.out.below hb (Nat.le_refl _))
  try replace HLB := Lib.hid (HLB.out.below hb (Nat.le_refl _))
  try replace HLC := Lib.hid (HLC.out.below hb (Nat.le_refl _))
  try replace HLD := Lib.hid (HLD.out.below hb (Nat.le_refl _))
  try replace HU := Lib.hid (HU.out.below hb (Nat.le_refl _))
  try replace HV := Lib.hid (HV.out.below hb (Nat.le_refl _))
  try replace HZ := Lib.hid (HZ.out.below hb (Nat.le_refl _))
  try clear hb
  go_wp2_with fail
  refine (exA_c _).mono ?_
  rintro e w3 ⟨rfl, hb⟩
  replace HB0 := Lib.hid (HB0.out.trans (hb.mono HB0.out.size))
  try replace HT := Lib.hid (HT.out.below hb (Nat.le_refl _))
  try replace HAPA := Lib.hid (HAPA.out.below hb (Nat.le_refl _))
  try replace HX := Lib.hid (HX.out.below hb (Nat.le_refl _))
  try replace HY := Lib.hid (HY.out.below hb (Nat.le_refl _))
  try replace HL := Lib.hid (HL.out.below hb (Nat.le_refl _))
  try replace HNN := Lib.hid (HNN.out.below hb (Nat.le_refl _))
  try replace HLA := Lib.hid (HLA.out.below hb (Nat.le_refl _))
  try replace HLB := Lib.hid (HLB.out.below hb (Nat.le_refl _))
  try replace HLC := Lib.hid (HLC.out.below hb (Nat.le_refl _))
  try replace HLD := Lib.hid (HLD.out.below hb (Nat.le_refl _))
  try replace HU := Lib.hid (HU.out.below hb (Nat.le_refl _))
  try replace HV := Lib.hid (HV.out.below hb (Nat.le_refl _))
  try replace HZ := Lib.hid (HZ.out.below hb (Nat.le_refl _))
  try clear hb
  go_wp2_with fail
  have HAPA := Lib.hid (built_word w3 [sA, sP, sA] 43 (by simp))
  have hb : Below w3.heap.size w3 (w3.alloc (.cells (wcells [sA, sP, sA]).toArray 43)) := (by repeat' (first | exact Below.refl _ _ | assumption | refine Below.alloc ?_ (by first | omega | (simp; done) | (simp; omega)) _ | refine Below.setCell ?_ (by first | omega | (simp; done) | (simp; omega)) _ | refine Below.drew ?_ | refine Below.drewN ?_ _ | refine Below.step (by assumption) (by first | omega | (simp; done) | (simp; omega)) ?_))
  replace HB0 := Lib.hid (HB0.out.trans (hb.mono HB0.out.size))
  try replace HT := Lib.hid (HT.out.below hb (Nat.le_refl _))
  try replace HAPA := Lib.hid (HAPA.out.below hb (Nat.le_refl _))
  try replace HX := Lib.hid (HX.out.below hb (Nat.le_refl _))
  try replace HY := Lib.hid (HY.out.below hb (Nat.le_refl _))
  try replace HL := Lib.hid (HL.out.below hb (Nat.le_refl _))
  try replace HNN := Lib.hid (HNN.out.below hb (Nat.le_refl _))
  try replace HLA := Lib.hid (HLA.out.below hb (Nat.le_refl _))
  try replace HLB := Lib.hid (HLB.out.below hb (Nat.le_refl _))
  try replace HLC := Lib.hid (HLC.out.below hb (Nat.le_refl _))
  try replace HLD := Lib.hid (HLD.out.below hb (Nat.le_refl _))
  try replace HU := Lib.hid (HU.out.below hb (Nat.le_refl _))
  try replace HV := Lib.hid (HV.out.below hb (Nat.le_refl _))
  try replace HZ := Lib.hid (HZ.out.below hb (Nat.le_refl _))
  try clear hb
  rw [show w3.alloc (.cells #[.int .u32 sA.1, .int .u32 sA.2, .int .u32 sP.1, .int .u32 sP.2, .int .u32 sA.1, .int .u32 sA.2] 43) = w3.alloc (.cells (wcells [sA, sP, sA]).toArray 43) from rfl]
  generalize w3.alloc (.cells (wcells [sA, sP, sA]).toArray 43) = w3' at *
  go_wp2_with fail
  refine (exV_c _).mono ?_
  rintro e w4 ⟨av, rfl, hl_, hb⟩
  replace HB0 := Lib.hid (HB0.out.trans (hb.mono HB0.out.size))
  try replace HT := Lib.hid (HT.out.below hb (Nat.le_refl _))
  try replace HAPA := Lib.hid (HAPA.out.below hb (Nat.le_refl _))
  try replace HX := Lib.hid (HX.out.below hb (Nat.le_refl _))
  try replace HY := Lib.hid (HY.out.below hb (Nat.le_refl _))
  try replace HL := Lib.hid (HL.out.below hb (Nat.le_refl _))
  try replace HNN := Lib.hid (HNN.out.below hb (Nat.le_refl _))
  try replace HLA := Lib.hid (HLA.out.below hb (Nat.le_refl _))
  try replace HLB := Lib.hid (HLB.out.below hb (Nat.le_refl _))
  try replace HLC := Lib.hid (HLC.out.below hb (Nat.le_refl _))
  try replace HLD := Lib.hid (HLD.out.below hb (Nat.le_refl _))
  try replace HU := Lib.hid (HU.out.below hb (Nat.le_refl _))
  try replace HV := Lib.hid (HV.out.below hb (Nat.le_refl _))
  try replace HZ := Lib.hid (HZ.out.below hb (Nat.le_refl _))
  try clear hb
  have HLA := Lib.hid hl_; clear hl_
  go_wp2_with fail
  refine (exF_c _).mono ?_
  rintro e w5 ⟨af, rfl, hl_, hb⟩
  replace HB0 := Lib.hid (HB0.out.trans (hb.mono HB0.out.size))
  try replace HT := Lib.hid (HT.out.below hb (Nat.le_refl _))
  try replace HAPA := Lib.hid (HAPA.out.below hb (Nat.le_refl _))
  try replace HX := Lib.hid (HX.out.below hb (Nat.le_refl _))
  try replace HY := Lib.hid (HY.out.below hb (Nat.le_refl _))
  try replace HL := Lib.hid (HL.out.below hb (Nat.le_refl _))
  try replace HNN := Lib.hid (HNN.out.below hb (Nat.le_refl _))
  try replace HLA := Lib.hid (HLA.out.below hb (Nat.le_refl _))
  try replace HLB := Lib.hid (HLB.out.below hb (Nat.le_refl _))
  try replace HLC := Lib.hid (HLC.out.below hb (Nat.le_refl _))
  try replace HLD := Lib.hid (HLD.out.below hb (Nat.le_refl _))
  try replace HU := Lib.hid (HU.out.below hb (Nat.le_refl _))
  try replace HV := Lib.hid (HV.out.below hb (Nat.le_refl _))
  try replace HZ := Lib.hid (HZ.out.below hb (Nat.le_refl _))
  try clear hb
  have HLB := Lib.hid hl_; clear hl_
  go_wp2_with (refine build_law2 rfl (.tmp 18) (.tmp 19) rfl ⟨vD, av⟩ ⟨fD, af⟩ rfl rfl ?_)
  have HLC := Lib.hid (built_laws2 w5 ⟨vD, av⟩ ⟨fD, af⟩ 49 HLA.out HLB.out)
  have hb : Below w5.heap.size w5 (w5.alloc (.cells ((LawR.mk vD av).cells ++ (LawR.mk fD af).cells).toArray 49)) := (by repeat' (first | exact Below.refl _ _ | assumption | refine Below.alloc ?_ (by first | omega | (simp; done) | (simp; omega)) _ | refine Below.setCell ?_ (by first | omega | (simp; done) | (simp; omega)) _ | refine Below.drew ?_ | refine Below.drewN ?_ _ | refine Below.step (by assumption) (by first | omega | (simp; done) | (simp; omega)) ?_))
  replace HB0 := Lib.hid (HB0.out.trans (hb.mono HB0.out.size))
  try replace HT := Lib.hid (HT.out.below hb (Nat.le_refl _))
  try replace HAPA := Lib.hid (HAPA.out.below hb (Nat.le_refl _))
  try replace HX := Lib.hid (HX.out.below hb (Nat.le_refl _))
  try replace HY := Lib.hid (HY.out.below hb (Nat.le_refl _))
  try replace HL := Lib.hid (HL.out.below hb (Nat.le_refl _))
  try replace HNN := Lib.hid (HNN.out.below hb (Nat.le_refl _))
  try replace HLA := Lib.hid (HLA.out.below hb (Nat.le_refl _))
  try replace HLB := Lib.hid (HLB.out.below hb (Nat.le_refl _))
  try replace HLC := Lib.hid (HLC.out.below hb (Nat.le_refl _))
  try replace HLD := Lib.hid (HLD.out.below hb (Nat.le_refl _))
  try replace HU := Lib.hid (HU.out.below hb (Nat.le_refl _))
  try replace HV := Lib.hid (HV.out.below hb (Nat.le_refl _))
  try replace HZ := Lib.hid (HZ.out.below hb (Nat.le_refl _))
  try clear hb
  generalize w5.alloc (.cells ((LawR.mk vD av).cells ++ (LawR.mk fD af).cells).toArray 49) = w6 at *
  clear HLA HLB
  refine (derive_c _ 2 2 [⟨vD, av⟩, ⟨fD, af⟩] _ 3 3 [sA, sP, sA] w6 HLC.out HAPA.out HT.out).mono ?_
  rw [show deriveM (lawsD [⟨vD, av⟩, ⟨fD, af⟩]) [sA, sP, sA] = (0, [sA, sB]) from exm1]
  rintro e w7 ⟨Ax, nx, cx, rfl, hx_, hb, -⟩
  clear HLC
  replace HB0 := Lib.hid (HB0.out.trans (hb.mono HB0.out.size))
  try replace HT := Lib.hid (HT.out.below hb (Nat.le_refl _))
  try replace HAPA := Lib.hid (HAPA.out.below hb (Nat.le_refl _))
  try replace HX := Lib.hid (HX.out.below hb (Nat.le_refl _))
  try replace HY := Lib.hid (HY.out.below hb (Nat.le_refl _))
  try replace HL := Lib.hid (HL.out.below hb (Nat.le_refl _))
  try replace HNN := Lib.hid (HNN.out.below hb (Nat.le_refl _))
  try replace HLA := Lib.hid (HLA.out.below hb (Nat.le_refl _))
  try replace HLB := Lib.hid (HLB.out.below hb (Nat.le_refl _))
  try replace HLC := Lib.hid (HLC.out.below hb (Nat.le_refl _))
  try replace HLD := Lib.hid (HLD.out.below hb (Nat.le_refl _))
  try replace HU := Lib.hid (HU.out.below hb (Nat.le_refl _))
  try replace HV := Lib.hid (HV.out.below hb (Nat.le_refl _))
  try replace HZ := Lib.hid (HZ.out.below hb (Nat.le_refl _))
  try clear hb
  have HX := Lib.hid hx_; clear hx_
  go_wp2_with fail
  refine (exF_c _).mono ?_
  rintro e w8 ⟨af1, rfl, hl_, hb⟩
  replace HB0 := Lib.hid (HB0.out.trans (hb.mono HB0.out.size))
  try replace HT := Lib.hid (HT.out.below hb (Nat.le_refl _))
  try replace HAPA := Lib.hid (HAPA.out.below hb (Nat.le_refl _))
  try replace HX := Lib.hid (HX.out.below hb (Nat.le_refl _))
  try replace HY := Lib.hid (HY.out.below hb (Nat.le_refl _))
  try replace HL := Lib.hid (HL.out.below hb (Nat.le_refl _))
  try replace HNN := Lib.hid (HNN.out.below hb (Nat.le_refl _))
  try replace HLA := Lib.hid (HLA.out.below hb (Nat.le_refl _))
  try replace HLB := Lib.hid (HLB.out.below hb (Nat.le_refl _))
  try replace HLC := Lib.hid (HLC.out.below hb (Nat.le_refl _))
  try replace HLD := Lib.hid (HLD.out.below hb (Nat.le_refl _))
  try replace HU := Lib.hid (HU.out.below hb (Nat.le_refl _))
  try replace HV := Lib.hid (HV.out.below hb (Nat.le_refl _))
  try replace HZ := Lib.hid (HZ.out.below hb (Nat.le_refl _))
  try clear hb
  have HLA := Lib.hid hl_; clear hl_
  go_wp2_with fail
  refine (exV_c _).mono ?_
  rintro e w9 ⟨av1, rfl, hl_, hb⟩
  replace HB0 := Lib.hid (HB0.out.trans (hb.mono HB0.out.size))
  try replace HT := Lib.hid (HT.out.below hb (Nat.le_refl _))
  try replace HAPA := Lib.hid (HAPA.out.below hb (Nat.le_refl _))
  try replace HX := Lib.hid (HX.out.below hb (Nat.le_refl _))
  try replace HY := Lib.hid (HY.out.below hb (Nat.le_refl _))
  try replace HL := Lib.hid (HL.out.below hb (Nat.le_refl _))
  try replace HNN := Lib.hid (HNN.out.below hb (Nat.le_refl _))
  try replace HLA := Lib.hid (HLA.out.below hb (Nat.le_refl _))
  try replace HLB := Lib.hid (HLB.out.below hb (Nat.le_refl _))
  try replace HLC := Lib.hid (HLC.out.below hb (Nat.le_refl _))
  try replace HLD := Lib.hid (HLD.out.below hb (Nat.le_refl _))
  try replace HU := Lib.hid (HU.out.below hb (Nat.le_refl _))
  try replace HV := Lib.hid (HV.out.below hb (Nat.le_refl _))
  try replace HZ := Lib.hid (HZ.out.below hb (Nat.le_refl _))
  try clear hb
  have HLB := Lib.hid hl_; clear hl_
  go_wp2_with (refine build_law2 rfl (.tmp 26) (.tmp 27) rfl ⟨fD, af1⟩ ⟨vD, av1⟩ rfl rfl ?_)
  have HLC := Lib.hid (built_laws2 w9 ⟨fD, af1⟩ ⟨vD, av1⟩ 49 HLA.out HLB.out)
  have hb : Below w9.heap.size w9 (w9.alloc (.cells ((LawR.mk fD af1).cells ++ (LawR.mk vD av1).cells).toArray 49)) := (by repeat' (first | exact Below.refl _ _ | assumption | refine Below.alloc ?_ (by first | omega | (simp; done) | (simp; omega)) _ | refine Below.setCell ?_ (by first | omega | (simp; done) | (simp; omega)) _ | refine Below.drew ?_ | refine Below.drewN ?_ _ | refine Below.step (by assumption) (by first | omega | (simp; done) | (simp; omega)) ?_))
  replace HB0 := Lib.hid (HB0.out.trans (hb.mono HB0.out.size))
  try replace HT := Lib.hid (HT.out.below hb (Nat.le_refl _))
  try replace HAPA := Lib.hid (HAPA.out.below hb (Nat.le_refl _))
  try replace HX := Lib.hid (HX.out.below hb (Nat.le_refl _))
  try replace HY := Lib.hid (HY.out.below hb (Nat.le_refl _))
  try replace HL := Lib.hid (HL.out.below hb (Nat.le_refl _))
  try replace HNN := Lib.hid (HNN.out.below hb (Nat.le_refl _))
  try replace HLA := Lib.hid (HLA.out.below hb (Nat.le_refl _))
  try replace HLB := Lib.hid (HLB.out.below hb (Nat.le_refl _))
  try replace HLC := Lib.hid (HLC.out.below hb (Nat.le_refl _))
  try replace HLD := Lib.hid (HLD.out.below hb (Nat.le_refl _))
  try replace HU := Lib.hid (HU.out.below hb (Nat.le_refl _))
  try replace HV := Lib.hid (HV.out.below hb (Nat.le_refl _))
  try replace HZ := Lib.hid (HZ.out.below hb (Nat.le_refl _))
  try clear hb
  generalize w9.alloc (.cells ((LawR.mk fD af1).cells ++ (LawR.mk vD av1).cells).toArray 49) = w10 at *
  clear HLA HLB
  refine (derive_c _ 2 2 [⟨fD, af1⟩, ⟨vD, av1⟩] _ 3 3 [sA, sP, sA] w10 HLC.out HAPA.out HT.out).mono ?_
  rw [show deriveM (lawsD [⟨fD, af1⟩, ⟨vD, av1⟩]) [sA, sP, sA] = (0, [sA, sP]) from exm2]
  rintro e w11 ⟨Ay, ny, cy, rfl, hx_, hb, -⟩
  clear HLC
  replace HB0 := Lib.hid (HB0.out.trans (hb.mono HB0.out.size))
  try replace HT := Lib.hid (HT.out.below hb (Nat.le_refl _))
  try replace HAPA := Lib.hid (HAPA.out.below hb (Nat.le_refl _))
  try replace HX := Lib.hid (HX.out.below hb (Nat.le_refl _))
  try replace HY := Lib.hid (HY.out.below hb (Nat.le_refl _))
  try replace HL := Lib.hid (HL.out.below hb (Nat.le_refl _))
  try replace HNN := Lib.hid (HNN.out.below hb (Nat.le_refl _))
  try replace HLA := Lib.hid (HLA.out.below hb (Nat.le_refl _))
  try replace HLB := Lib.hid (HLB.out.below hb (Nat.le_refl _))
  try replace HLC := Lib.hid (HLC.out.below hb (Nat.le_refl _))
  try replace HLD := Lib.hid (HLD.out.below hb (Nat.le_refl _))
  try replace HU := Lib.hid (HU.out.below hb (Nat.le_refl _))
  try replace HV := Lib.hid (HV.out.below hb (Nat.le_refl _))
  try replace HZ := Lib.hid (HZ.out.below hb (Nat.le_refl _))
  try clear hb
  have HY := Lib.hid hx_; clear hx_
  go_wp2_with fail
  refine (exF_c _).mono ?_
  rintro e w12 ⟨af2, rfl, hl_, hb⟩
  replace HB0 := Lib.hid (HB0.out.trans (hb.mono HB0.out.size))
  try replace HT := Lib.hid (HT.out.below hb (Nat.le_refl _))
  try replace HAPA := Lib.hid (HAPA.out.below hb (Nat.le_refl _))
  try replace HX := Lib.hid (HX.out.below hb (Nat.le_refl _))
  try replace HY := Lib.hid (HY.out.below hb (Nat.le_refl _))
  try replace HL := Lib.hid (HL.out.below hb (Nat.le_refl _))
  try replace HNN := Lib.hid (HNN.out.below hb (Nat.le_refl _))
  try replace HLA := Lib.hid (HLA.out.below hb (Nat.le_refl _))
  try replace HLB := Lib.hid (HLB.out.below hb (Nat.le_refl _))
  try replace HLC := Lib.hid (HLC.out.below hb (Nat.le_refl _))
  try replace HLD := Lib.hid (HLD.out.below hb (Nat.le_refl _))
  try replace HU := Lib.hid (HU.out.below hb (Nat.le_refl _))
  try replace HV := Lib.hid (HV.out.below hb (Nat.le_refl _))
  try replace HZ := Lib.hid (HZ.out.below hb (Nat.le_refl _))
  try clear hb
  have HLA := Lib.hid hl_; clear hl_
  go_wp2_with fail
  refine (exV_c _).mono ?_
  rintro e w13 ⟨av2, rfl, hl_, hb⟩
  replace HB0 := Lib.hid (HB0.out.trans (hb.mono HB0.out.size))
  try replace HT := Lib.hid (HT.out.below hb (Nat.le_refl _))
  try replace HAPA := Lib.hid (HAPA.out.below hb (Nat.le_refl _))
  try replace HX := Lib.hid (HX.out.below hb (Nat.le_refl _))
  try replace HY := Lib.hid (HY.out.below hb (Nat.le_refl _))
  try replace HL := Lib.hid (HL.out.below hb (Nat.le_refl _))
  try replace HNN := Lib.hid (HNN.out.below hb (Nat.le_refl _))
  try replace HLA := Lib.hid (HLA.out.below hb (Nat.le_refl _))
  try replace HLB := Lib.hid (HLB.out.below hb (Nat.le_refl _))
  try replace HLC := Lib.hid (HLC.out.below hb (Nat.le_refl _))
  try replace HLD := Lib.hid (HLD.out.below hb (Nat.le_refl _))
  try replace HU := Lib.hid (HU.out.below hb (Nat.le_refl _))
  try replace HV := Lib.hid (HV.out.below hb (Nat.le_refl _))
  try replace HZ := Lib.hid (HZ.out.below hb (Nat.le_refl _))
  try clear hb
  have HLB := Lib.hid hl_; clear hl_
  go_wp2_with (refine build_law2 rfl (.tmp 34) (.tmp 35) rfl ⟨fD, af2⟩ ⟨vD, av2⟩ rfl rfl ?_)
  have HLC := Lib.hid (built_laws2 w13 ⟨fD, af2⟩ ⟨vD, av2⟩ 49 HLA.out HLB.out)
  have hb : Below w13.heap.size w13 (w13.alloc (.cells ((LawR.mk fD af2).cells ++ (LawR.mk vD av2).cells).toArray 49)) := (by repeat' (first | exact Below.refl _ _ | assumption | refine Below.alloc ?_ (by first | omega | (simp; done) | (simp; omega)) _ | refine Below.setCell ?_ (by first | omega | (simp; done) | (simp; omega)) _ | refine Below.drew ?_ | refine Below.drewN ?_ _ | refine Below.step (by assumption) (by first | omega | (simp; done) | (simp; omega)) ?_))
  replace HB0 := Lib.hid (HB0.out.trans (hb.mono HB0.out.size))
  try replace HT := Lib.hid (HT.out.below hb (Nat.le_refl _))
  try replace HAPA := Lib.hid (HAPA.out.below hb (Nat.le_refl _))
  try replace HX := Lib.hid (HX.out.below hb (Nat.le_refl _))
  try replace HY := Lib.hid (HY.out.below hb (Nat.le_refl _))
  try replace HL := Lib.hid (HL.out.below hb (Nat.le_refl _))
  try replace HNN := Lib.hid (HNN.out.below hb (Nat.le_refl _))
  try replace HLA := Lib.hid (HLA.out.below hb (Nat.le_refl _))
  try replace HLB := Lib.hid (HLB.out.below hb (Nat.le_refl _))
  try replace HLC := Lib.hid (HLC.out.below hb (Nat.le_refl _))
  try replace HLD := Lib.hid (HLD.out.below hb (Nat.le_refl _))
  try replace HU := Lib.hid (HU.out.below hb (Nat.le_refl _))
  try replace HV := Lib.hid (HV.out.below hb (Nat.le_refl _))
  try replace HZ := Lib.hid (HZ.out.below hb (Nat.le_refl _))
  try clear hb
  generalize w13.alloc (.cells ((LawR.mk fD af2).cells ++ (LawR.mk vD av2).cells).toArray 49) = w14 at *
  clear HLA HLB
  refine (forms_all _ 2 2 [⟨fD, af2⟩, ⟨vD, av2⟩] _ 3 3 [sA, sP, sA] w14 HLC.out HAPA.out HT.out).mono ?_
  rw [show formsE (lawsD [⟨fD, af2⟩, ⟨vD, av2⟩]) [sA, sP, sA] = (0, [[sA, sP, sA], [sA, sP], [sA, sP]]) from exm3]
  rintro e w15 ⟨Al, nl, cl, rfl, hx_, hb⟩
  clear HLC
  replace HB0 := Lib.hid (HB0.out.trans (hb.mono HB0.out.size))
  try replace HT := Lib.hid (HT.out.below hb (Nat.le_refl _))
  try replace HAPA := Lib.hid (HAPA.out.below hb (Nat.le_refl _))
  try replace HX := Lib.hid (HX.out.below hb (Nat.le_refl _))
  try replace HY := Lib.hid (HY.out.below hb (Nat.le_refl _))
  try replace HL := Lib.hid (HL.out.below hb (Nat.le_refl _))
  try replace HNN := Lib.hid (HNN.out.below hb (Nat.le_refl _))
  try replace HLA := Lib.hid (HLA.out.below hb (Nat.le_refl _))
  try replace HLB := Lib.hid (HLB.out.below hb (Nat.le_refl _))
  try replace HLC := Lib.hid (HLC.out.below hb (Nat.le_refl _))
  try replace HLD := Lib.hid (HLD.out.below hb (Nat.le_refl _))
  try replace HU := Lib.hid (HU.out.below hb (Nat.le_refl _))
  try replace HV := Lib.hid (HV.out.below hb (Nat.le_refl _))
  try replace HZ := Lib.hid (HZ.out.below hb (Nat.le_refl _))
  try clear hb
  have HL := Lib.hid hx_; clear hx_
  go_wp2_with fail
  refine (exV_c _).mono ?_
  rintro e w16 ⟨av3, rfl, hl_, hb⟩
  replace HB0 := Lib.hid (HB0.out.trans (hb.mono HB0.out.size))
  try replace HT := Lib.hid (HT.out.below hb (Nat.le_refl _))
  try replace HAPA := Lib.hid (HAPA.out.below hb (Nat.le_refl _))
  try replace HX := Lib.hid (HX.out.below hb (Nat.le_refl _))
  try replace HY := Lib.hid (HY.out.below hb (Nat.le_refl _))
  try replace HL := Lib.hid (HL.out.below hb (Nat.le_refl _))
  try replace HNN := Lib.hid (HNN.out.below hb (Nat.le_refl _))
  try replace HLA := Lib.hid (HLA.out.below hb (Nat.le_refl _))
  try replace HLB := Lib.hid (HLB.out.below hb (Nat.le_refl _))
  try replace HLC := Lib.hid (HLC.out.below hb (Nat.le_refl _))
  try replace HLD := Lib.hid (HLD.out.below hb (Nat.le_refl _))
  try replace HU := Lib.hid (HU.out.below hb (Nat.le_refl _))
  try replace HV := Lib.hid (HV.out.below hb (Nat.le_refl _))
  try replace HZ := Lib.hid (HZ.out.below hb (Nat.le_refl _))
  try clear hb
  have HLA := Lib.hid hl_; clear hl_
  go_wp2_with fail
  refine (exF_c _).mono ?_
  rintro e w17 ⟨af3, rfl, hl_, hb⟩
  replace HB0 := Lib.hid (HB0.out.trans (hb.mono HB0.out.size))
  try replace HT := Lib.hid (HT.out.below hb (Nat.le_refl _))
  try replace HAPA := Lib.hid (HAPA.out.below hb (Nat.le_refl _))
  try replace HX := Lib.hid (HX.out.below hb (Nat.le_refl _))
  try replace HY := Lib.hid (HY.out.below hb (Nat.le_refl _))
  try replace HL := Lib.hid (HL.out.below hb (Nat.le_refl _))
  try replace HNN := Lib.hid (HNN.out.below hb (Nat.le_refl _))
  try replace HLA := Lib.hid (HLA.out.below hb (Nat.le_refl _))
  try replace HLB := Lib.hid (HLB.out.below hb (Nat.le_refl _))
  try replace HLC := Lib.hid (HLC.out.below hb (Nat.le_refl _))
  try replace HLD := Lib.hid (HLD.out.below hb (Nat.le_refl _))
  try replace HU := Lib.hid (HU.out.below hb (Nat.le_refl _))
  try replace HV := Lib.hid (HV.out.below hb (Nat.le_refl _))
  try replace HZ := Lib.hid (HZ.out.below hb (Nat.le_refl _))
  try clear hb
  have HLB := Lib.hid hl_; clear hl_
  go_wp2_with (refine build_law2 rfl (.tmp 42) (.tmp 43) rfl ⟨vD, av3⟩ ⟨fD, af3⟩ rfl rfl ?_)
  have HLC := Lib.hid (built_laws2 w17 ⟨vD, av3⟩ ⟨fD, af3⟩ 49 HLA.out HLB.out)
  have hb : Below w17.heap.size w17 (w17.alloc (.cells ((LawR.mk vD av3).cells ++ (LawR.mk fD af3).cells).toArray 49)) := (by repeat' (first | exact Below.refl _ _ | assumption | refine Below.alloc ?_ (by first | omega | (simp; done) | (simp; omega)) _ | refine Below.setCell ?_ (by first | omega | (simp; done) | (simp; omega)) _ | refine Below.drew ?_ | refine Below.drewN ?_ _ | refine Below.step (by assumption) (by first | omega | (simp; done) | (simp; omega)) ?_))
  replace HB0 := Lib.hid (HB0.out.trans (hb.mono HB0.out.size))
  try replace HT := Lib.hid (HT.out.below hb (Nat.le_refl _))
  try replace HAPA := Lib.hid (HAPA.out.below hb (Nat.le_refl _))
  try replace HX := Lib.hid (HX.out.below hb (Nat.le_refl _))
  try replace HY := Lib.hid (HY.out.below hb (Nat.le_refl _))
  try replace HL := Lib.hid (HL.out.below hb (Nat.le_refl _))
  try replace HNN := Lib.hid (HNN.out.below hb (Nat.le_refl _))
  try replace HLA := Lib.hid (HLA.out.below hb (Nat.le_refl _))
  try replace HLB := Lib.hid (HLB.out.below hb (Nat.le_refl _))
  try replace HLC := Lib.hid (HLC.out.below hb (Nat.le_refl _))
  try replace HLD := Lib.hid (HLD.out.below hb (Nat.le_refl _))
  try replace HU := Lib.hid (HU.out.below hb (Nat.le_refl _))
  try replace HV := Lib.hid (HV.out.below hb (Nat.le_refl _))
  try replace HZ := Lib.hid (HZ.out.below hb (Nat.le_refl _))
  try clear hb
  generalize w17.alloc (.cells ((LawR.mk vD av3).cells ++ (LawR.mk fD af3).cells).toArray 49) = w18 at *
  clear HLA HLB
  refine (exP_c _).mono ?_
  rintro e w19 ⟨rfl, hb⟩
  replace HB0 := Lib.hid (HB0.out.trans (hb.mono HB0.out.size))
  try replace HT := Lib.hid (HT.out.below hb (Nat.le_refl _))
  try replace HAPA := Lib.hid (HAPA.out.below hb (Nat.le_refl _))
  try replace HX := Lib.hid (HX.out.below hb (Nat.le_refl _))
  try replace HY := Lib.hid (HY.out.below hb (Nat.le_refl _))
  try replace HL := Lib.hid (HL.out.below hb (Nat.le_refl _))
  try replace HNN := Lib.hid (HNN.out.below hb (Nat.le_refl _))
  try replace HLA := Lib.hid (HLA.out.below hb (Nat.le_refl _))
  try replace HLB := Lib.hid (HLB.out.below hb (Nat.le_refl _))
  try replace HLC := Lib.hid (HLC.out.below hb (Nat.le_refl _))
  try replace HLD := Lib.hid (HLD.out.below hb (Nat.le_refl _))
  try replace HU := Lib.hid (HU.out.below hb (Nat.le_refl _))
  try replace HV := Lib.hid (HV.out.below hb (Nat.le_refl _))
  try replace HZ := Lib.hid (HZ.out.below hb (Nat.le_refl _))
  try clear hb
  go_wp2_with fail
  refine (exA_c _).mono ?_
  rintro e w20 ⟨rfl, hb⟩
  replace HB0 := Lib.hid (HB0.out.trans (hb.mono HB0.out.size))
  try replace HT := Lib.hid (HT.out.below hb (Nat.le_refl _))
  try replace HAPA := Lib.hid (HAPA.out.below hb (Nat.le_refl _))
  try replace HX := Lib.hid (HX.out.below hb (Nat.le_refl _))
  try replace HY := Lib.hid (HY.out.below hb (Nat.le_refl _))
  try replace HL := Lib.hid (HL.out.below hb (Nat.le_refl _))
  try replace HNN := Lib.hid (HNN.out.below hb (Nat.le_refl _))
  try replace HLA := Lib.hid (HLA.out.below hb (Nat.le_refl _))
  try replace HLB := Lib.hid (HLB.out.below hb (Nat.le_refl _))
  try replace HLC := Lib.hid (HLC.out.below hb (Nat.le_refl _))
  try replace HLD := Lib.hid (HLD.out.below hb (Nat.le_refl _))
  try replace HU := Lib.hid (HU.out.below hb (Nat.le_refl _))
  try replace HV := Lib.hid (HV.out.below hb (Nat.le_refl _))
  try replace HZ := Lib.hid (HZ.out.below hb (Nat.le_refl _))
  try clear hb
  go_wp2_with fail
  refine (exP_c _).mono ?_
  rintro e w21 ⟨rfl, hb⟩
  replace HB0 := Lib.hid (HB0.out.trans (hb.mono HB0.out.size))
  try replace HT := Lib.hid (HT.out.below hb (Nat.le_refl _))
  try replace HAPA := Lib.hid (HAPA.out.below hb (Nat.le_refl _))
  try replace HX := Lib.hid (HX.out.below hb (Nat.le_refl _))
  try replace HY := Lib.hid (HY.out.below hb (Nat.le_refl _))
  try replace HL := Lib.hid (HL.out.below hb (Nat.le_refl _))
  try replace HNN := Lib.hid (HNN.out.below hb (Nat.le_refl _))
  try replace HLA := Lib.hid (HLA.out.below hb (Nat.le_refl _))
  try replace HLB := Lib.hid (HLB.out.below hb (Nat.le_refl _))
  try replace HLC := Lib.hid (HLC.out.below hb (Nat.le_refl _))
  try replace HLD := Lib.hid (HLD.out.below hb (Nat.le_refl _))
  try replace HU := Lib.hid (HU.out.below hb (Nat.le_refl _))
  try replace HV := Lib.hid (HV.out.below hb (Nat.le_refl _))
  try replace HZ := Lib.hid (HZ.out.below hb (Nat.le_refl _))
  try clear hb
  go_wp2_with fail
  have HU := Lib.hid (built_word w21 [sP, sA, sP] 43 (by simp))
  have hb : Below w21.heap.size w21 (w21.alloc (.cells (wcells [sP, sA, sP]).toArray 43)) := (by repeat' (first | exact Below.refl _ _ | assumption | refine Below.alloc ?_ (by first | omega | (simp; done) | (simp; omega)) _ | refine Below.setCell ?_ (by first | omega | (simp; done) | (simp; omega)) _ | refine Below.drew ?_ | refine Below.drewN ?_ _ | refine Below.step (by assumption) (by first | omega | (simp; done) | (simp; omega)) ?_))
  replace HB0 := Lib.hid (HB0.out.trans (hb.mono HB0.out.size))
  try replace HT := Lib.hid (HT.out.below hb (Nat.le_refl _))
  try replace HAPA := Lib.hid (HAPA.out.below hb (Nat.le_refl _))
  try replace HX := Lib.hid (HX.out.below hb (Nat.le_refl _))
  try replace HY := Lib.hid (HY.out.below hb (Nat.le_refl _))
  try replace HL := Lib.hid (HL.out.below hb (Nat.le_refl _))
  try replace HNN := Lib.hid (HNN.out.below hb (Nat.le_refl _))
  try replace HLA := Lib.hid (HLA.out.below hb (Nat.le_refl _))
  try replace HLB := Lib.hid (HLB.out.below hb (Nat.le_refl _))
  try replace HLC := Lib.hid (HLC.out.below hb (Nat.le_refl _))
  try replace HLD := Lib.hid (HLD.out.below hb (Nat.le_refl _))
  try replace HU := Lib.hid (HU.out.below hb (Nat.le_refl _))
  try replace HV := Lib.hid (HV.out.below hb (Nat.le_refl _))
  try replace HZ := Lib.hid (HZ.out.below hb (Nat.le_refl _))
  try clear hb
  rw [show w21.alloc (.cells #[.int .u32 sP.1, .int .u32 sP.2, .int .u32 sA.1, .int .u32 sA.2, .int .u32 sP.1, .int .u32 sP.2] 43) = w21.alloc (.cells (wcells [sP, sA, sP]).toArray 43) from rfl]
  generalize w21.alloc (.cells (wcells [sP, sA, sP]).toArray 43) = w22 at *
  refine (exP_c _).mono ?_
  rintro e w23 ⟨rfl, hb⟩
  replace HB0 := Lib.hid (HB0.out.trans (hb.mono HB0.out.size))
  try replace HT := Lib.hid (HT.out.below hb (Nat.le_refl _))
  try replace HAPA := Lib.hid (HAPA.out.below hb (Nat.le_refl _))
  try replace HX := Lib.hid (HX.out.below hb (Nat.le_refl _))
  try replace HY := Lib.hid (HY.out.below hb (Nat.le_refl _))
  try replace HL := Lib.hid (HL.out.below hb (Nat.le_refl _))
  try replace HNN := Lib.hid (HNN.out.below hb (Nat.le_refl _))
  try replace HLA := Lib.hid (HLA.out.below hb (Nat.le_refl _))
  try replace HLB := Lib.hid (HLB.out.below hb (Nat.le_refl _))
  try replace HLC := Lib.hid (HLC.out.below hb (Nat.le_refl _))
  try replace HLD := Lib.hid (HLD.out.below hb (Nat.le_refl _))
  try replace HU := Lib.hid (HU.out.below hb (Nat.le_refl _))
  try replace HV := Lib.hid (HV.out.below hb (Nat.le_refl _))
  try replace HZ := Lib.hid (HZ.out.below hb (Nat.le_refl _))
  try clear hb
  go_wp2_with fail
  refine (exA_c _).mono ?_
  rintro e w24 ⟨rfl, hb⟩
  replace HB0 := Lib.hid (HB0.out.trans (hb.mono HB0.out.size))
  try replace HT := Lib.hid (HT.out.below hb (Nat.le_refl _))
  try replace HAPA := Lib.hid (HAPA.out.below hb (Nat.le_refl _))
  try replace HX := Lib.hid (HX.out.below hb (Nat.le_refl _))
  try replace HY := Lib.hid (HY.out.below hb (Nat.le_refl _))
  try replace HL := Lib.hid (HL.out.below hb (Nat.le_refl _))
  try replace HNN := Lib.hid (HNN.out.below hb (Nat.le_refl _))
  try replace HLA := Lib.hid (HLA.out.below hb (Nat.le_refl _))
  try replace HLB := Lib.hid (HLB.out.below hb (Nat.le_refl _))
  try replace HLC := Lib.hid (HLC.out.below hb (Nat.le_refl _))
  try replace HLD := Lib.hid (HLD.out.below hb (Nat.le_refl _))
  try replace HU := Lib.hid (HU.out.below hb (Nat.le_refl _))
  try replace HV := Lib.hid (HV.out.below hb (Nat.le_refl _))
  try replace HZ := Lib.hid (HZ.out.below hb (Nat.le_refl _))
  try clear hb
  go_wp2_with fail
  have HV := Lib.hid (built_word w24 [sP, sA] 43 (by simp))
  have hb : Below w24.heap.size w24 (w24.alloc (.cells (wcells [sP, sA]).toArray 43)) := (by repeat' (first | exact Below.refl _ _ | assumption | refine Below.alloc ?_ (by first | omega | (simp; done) | (simp; omega)) _ | refine Below.setCell ?_ (by first | omega | (simp; done) | (simp; omega)) _ | refine Below.drew ?_ | refine Below.drewN ?_ _ | refine Below.step (by assumption) (by first | omega | (simp; done) | (simp; omega)) ?_))
  replace HB0 := Lib.hid (HB0.out.trans (hb.mono HB0.out.size))
  try replace HT := Lib.hid (HT.out.below hb (Nat.le_refl _))
  try replace HAPA := Lib.hid (HAPA.out.below hb (Nat.le_refl _))
  try replace HX := Lib.hid (HX.out.below hb (Nat.le_refl _))
  try replace HY := Lib.hid (HY.out.below hb (Nat.le_refl _))
  try replace HL := Lib.hid (HL.out.below hb (Nat.le_refl _))
  try replace HNN := Lib.hid (HNN.out.below hb (Nat.le_refl _))
  try replace HLA := Lib.hid (HLA.out.below hb (Nat.le_refl _))
  try replace HLB := Lib.hid (HLB.out.below hb (Nat.le_refl _))
  try replace HLC := Lib.hid (HLC.out.below hb (Nat.le_refl _))
  try replace HLD := Lib.hid (HLD.out.below hb (Nat.le_refl _))
  try replace HU := Lib.hid (HU.out.below hb (Nat.le_refl _))
  try replace HV := Lib.hid (HV.out.below hb (Nat.le_refl _))
  try replace HZ := Lib.hid (HZ.out.below hb (Nat.le_refl _))
  try clear hb
  rw [show w24.alloc (.cells #[.int .u32 sP.1, .int .u32 sP.2, .int .u32 sA.1, .int .u32 sA.2] 43) = w24.alloc (.cells (wcells [sP, sA]).toArray 43) from rfl, show w24.heap.size + 1 = (w24.alloc (.cells (wcells [sP, sA]).toArray 43)).heap.size by simp]
  generalize w24.alloc (.cells (wcells [sP, sA]).toArray 43) = w25 at *
  obtain ⟨k3, e3⟩ : ∃ k, k = w3.heap.size := ⟨_, rfl⟩
  obtain ⟨k21, e21⟩ : ∃ k, k = w21.heap.size := ⟨_, rfl⟩
  obtain ⟨k24, e24⟩ : ∃ k, k = w24.heap.size := ⟨_, rfl⟩
  rw [← e3, ← e21, ← e24]
  rw [← e3] at HAPA
  rw [← e21] at HU
  rw [← e24] at HV
  clear e3 e21 e24
  have HZ := Lib.hid (built_words w25 [(some ⟨k3, 0, none⟩, 3, 3, [sA, sP, sA]), (some ⟨k21, 0, none⟩, 3, 3, [sP, sA, sP]), (some ⟨k24, 0, none⟩, 2, 2, [sP, sA])] 23 (by simp) (fun p hp => by
    simp only [List.mem_cons, List.not_mem_nil, or_false] at hp
    rcases hp with rfl | rfl | rfl
    · exact HAPA.out
    · exact HU.out
    · exact HV.out))
  have hb : Below w25.heap.size w25 (w25.alloc (.cells (([(some ⟨k3, 0, none⟩, 3, 3, [sA, sP, sA]), (some ⟨k21, 0, none⟩, 3, 3, [sP, sA, sP]), (some ⟨k24, 0, none⟩, 2, 2, [sP, sA])] : List Part).map Part.val).toArray 23)) := (by repeat' (first | exact Below.refl _ _ | assumption | refine Below.alloc ?_ (by first | omega | (simp; done) | (simp; omega)) _ | refine Below.setCell ?_ (by first | omega | (simp; done) | (simp; omega)) _ | refine Below.drew ?_ | refine Below.drewN ?_ _ | refine Below.step (by assumption) (by first | omega | (simp; done) | (simp; omega)) ?_))
  replace HB0 := Lib.hid (HB0.out.trans (hb.mono HB0.out.size))
  try replace HT := Lib.hid (HT.out.below hb (Nat.le_refl _))
  try replace HAPA := Lib.hid (HAPA.out.below hb (Nat.le_refl _))
  try replace HX := Lib.hid (HX.out.below hb (Nat.le_refl _))
  try replace HY := Lib.hid (HY.out.below hb (Nat.le_refl _))
  try replace HL := Lib.hid (HL.out.below hb (Nat.le_refl _))
  try replace HNN := Lib.hid (HNN.out.below hb (Nat.le_refl _))
  try replace HLA := Lib.hid (HLA.out.below hb (Nat.le_refl _))
  try replace HLB := Lib.hid (HLB.out.below hb (Nat.le_refl _))
  try replace HLC := Lib.hid (HLC.out.below hb (Nat.le_refl _))
  try replace HLD := Lib.hid (HLD.out.below hb (Nat.le_refl _))
  try replace HU := Lib.hid (HU.out.below hb (Nat.le_refl _))
  try replace HV := Lib.hid (HV.out.below hb (Nat.le_refl _))
  try replace HZ := Lib.hid (HZ.out.below hb (Nat.le_refl _))
  try clear hb
  rw [show w25.alloc (.cells #[.slice (some ⟨k3, 0, none⟩) 3 3, .slice (some ⟨k21, 0, none⟩) 3 3, .slice (some ⟨k24, 0, none⟩) 2 2] 23) = w25.alloc (.cells (([(some ⟨k3, 0, none⟩, 3, 3, [sA, sP, sA]), (some ⟨k21, 0, none⟩, 3, 3, [sP, sA, sP]), (some ⟨k24, 0, none⟩, 2, 2, [sP, sA])] : List Part).map Part.val).toArray 23) from rfl]
  generalize w25.alloc (.cells (([(some ⟨k3, 0, none⟩, 3, 3, [sA, sP, sA]), (some ⟨k21, 0, none⟩, 3, 3, [sP, sA, sP]), (some ⟨k24, 0, none⟩, 2, 2, [sP, sA])] : List Part).map Part.val).toArray 23) = w26 at *
  clear HU HV
  refine (used_c _ 2 2 [⟨vD, av3⟩, ⟨fD, af3⟩] _ 3 3 [[sA, sP, sA], [sP, sA, sP], [sP, sA]] w26 HLC.out HZ.out HT.out).mono ?_
  rw [show usedM (lawsD [⟨vD, av3⟩, ⟨fD, af3⟩]) [[sA, sP, sA], [sP, sA, sP], [sP, sA]] = (0, [1, 2]) from exm5]
  rintro e w27 ⟨An, nn, cn, rfl, hx_, hb⟩
  clear HLC HZ
  replace HB0 := Lib.hid (HB0.out.trans (hb.mono HB0.out.size))
  try replace HT := Lib.hid (HT.out.below hb (Nat.le_refl _))
  try replace HAPA := Lib.hid (HAPA.out.below hb (Nat.le_refl _))
  try replace HX := Lib.hid (HX.out.below hb (Nat.le_refl _))
  try replace HY := Lib.hid (HY.out.below hb (Nat.le_refl _))
  try replace HL := Lib.hid (HL.out.below hb (Nat.le_refl _))
  try replace HNN := Lib.hid (HNN.out.below hb (Nat.le_refl _))
  try replace HLA := Lib.hid (HLA.out.below hb (Nat.le_refl _))
  try replace HLB := Lib.hid (HLB.out.below hb (Nat.le_refl _))
  try replace HLC := Lib.hid (HLC.out.below hb (Nat.le_refl _))
  try replace HLD := Lib.hid (HLD.out.below hb (Nat.le_refl _))
  try replace HU := Lib.hid (HU.out.below hb (Nat.le_refl _))
  try replace HV := Lib.hid (HV.out.below hb (Nat.le_refl _))
  try replace HZ := Lib.hid (HZ.out.below hb (Nat.le_refl _))
  try clear hb
  have HNN := Lib.hid hx_; clear hx_
  go_wp2_with fail
  refine (exV_c _).mono ?_
  rintro e w28 ⟨av4, rfl, hl_, hb⟩
  replace HB0 := Lib.hid (HB0.out.trans (hb.mono HB0.out.size))
  try replace HT := Lib.hid (HT.out.below hb (Nat.le_refl _))
  try replace HAPA := Lib.hid (HAPA.out.below hb (Nat.le_refl _))
  try replace HX := Lib.hid (HX.out.below hb (Nat.le_refl _))
  try replace HY := Lib.hid (HY.out.below hb (Nat.le_refl _))
  try replace HL := Lib.hid (HL.out.below hb (Nat.le_refl _))
  try replace HNN := Lib.hid (HNN.out.below hb (Nat.le_refl _))
  try replace HLA := Lib.hid (HLA.out.below hb (Nat.le_refl _))
  try replace HLB := Lib.hid (HLB.out.below hb (Nat.le_refl _))
  try replace HLC := Lib.hid (HLC.out.below hb (Nat.le_refl _))
  try replace HLD := Lib.hid (HLD.out.below hb (Nat.le_refl _))
  try replace HU := Lib.hid (HU.out.below hb (Nat.le_refl _))
  try replace HV := Lib.hid (HV.out.below hb (Nat.le_refl _))
  try replace HZ := Lib.hid (HZ.out.below hb (Nat.le_refl _))
  try clear hb
  have HLA := Lib.hid hl_; clear hl_
  go_wp2_with fail
  refine (exF_c _).mono ?_
  rintro e w29 ⟨af4, rfl, hl_, hb⟩
  replace HB0 := Lib.hid (HB0.out.trans (hb.mono HB0.out.size))
  try replace HT := Lib.hid (HT.out.below hb (Nat.le_refl _))
  try replace HAPA := Lib.hid (HAPA.out.below hb (Nat.le_refl _))
  try replace HX := Lib.hid (HX.out.below hb (Nat.le_refl _))
  try replace HY := Lib.hid (HY.out.below hb (Nat.le_refl _))
  try replace HL := Lib.hid (HL.out.below hb (Nat.le_refl _))
  try replace HNN := Lib.hid (HNN.out.below hb (Nat.le_refl _))
  try replace HLA := Lib.hid (HLA.out.below hb (Nat.le_refl _))
  try replace HLB := Lib.hid (HLB.out.below hb (Nat.le_refl _))
  try replace HLC := Lib.hid (HLC.out.below hb (Nat.le_refl _))
  try replace HLD := Lib.hid (HLD.out.below hb (Nat.le_refl _))
  try replace HU := Lib.hid (HU.out.below hb (Nat.le_refl _))
  try replace HV := Lib.hid (HV.out.below hb (Nat.le_refl _))
  try replace HZ := Lib.hid (HZ.out.below hb (Nat.le_refl _))
  try clear hb
  have HLB := Lib.hid hl_; clear hl_
  go_wp2_with (refine build_law2 rfl (.tmp 58) (.tmp 59) rfl ⟨vD, av4⟩ ⟨fD, af4⟩ rfl rfl ?_)
  have HLC := Lib.hid (built_laws2 w29 ⟨vD, av4⟩ ⟨fD, af4⟩ 49 HLA.out HLB.out)
  have hb : Below w29.heap.size w29 (w29.alloc (.cells ((LawR.mk vD av4).cells ++ (LawR.mk fD af4).cells).toArray 49)) := (by repeat' (first | exact Below.refl _ _ | assumption | refine Below.alloc ?_ (by first | omega | (simp; done) | (simp; omega)) _ | refine Below.setCell ?_ (by first | omega | (simp; done) | (simp; omega)) _ | refine Below.drew ?_ | refine Below.drewN ?_ _ | refine Below.step (by assumption) (by first | omega | (simp; done) | (simp; omega)) ?_))
  replace HB0 := Lib.hid (HB0.out.trans (hb.mono HB0.out.size))
  try replace HT := Lib.hid (HT.out.below hb (Nat.le_refl _))
  try replace HAPA := Lib.hid (HAPA.out.below hb (Nat.le_refl _))
  try replace HX := Lib.hid (HX.out.below hb (Nat.le_refl _))
  try replace HY := Lib.hid (HY.out.below hb (Nat.le_refl _))
  try replace HL := Lib.hid (HL.out.below hb (Nat.le_refl _))
  try replace HNN := Lib.hid (HNN.out.below hb (Nat.le_refl _))
  try replace HLA := Lib.hid (HLA.out.below hb (Nat.le_refl _))
  try replace HLB := Lib.hid (HLB.out.below hb (Nat.le_refl _))
  try replace HLC := Lib.hid (HLC.out.below hb (Nat.le_refl _))
  try replace HLD := Lib.hid (HLD.out.below hb (Nat.le_refl _))
  try replace HU := Lib.hid (HU.out.below hb (Nat.le_refl _))
  try replace HV := Lib.hid (HV.out.below hb (Nat.le_refl _))
  try replace HZ := Lib.hid (HZ.out.below hb (Nat.le_refl _))
  try clear hb
  generalize w29.alloc (.cells ((LawR.mk vD av4).cells ++ (LawR.mk fD af4).cells).toArray 49) = w30 at *
  clear HLA HLB
  refine (exF_c _).mono ?_
  rintro e w31 ⟨af5, rfl, hl_, hb⟩
  replace HB0 := Lib.hid (HB0.out.trans (hb.mono HB0.out.size))
  try replace HT := Lib.hid (HT.out.below hb (Nat.le_refl _))
  try replace HAPA := Lib.hid (HAPA.out.below hb (Nat.le_refl _))
  try replace HX := Lib.hid (HX.out.below hb (Nat.le_refl _))
  try replace HY := Lib.hid (HY.out.below hb (Nat.le_refl _))
  try replace HL := Lib.hid (HL.out.below hb (Nat.le_refl _))
  try replace HNN := Lib.hid (HNN.out.below hb (Nat.le_refl _))
  try replace HLA := Lib.hid (HLA.out.below hb (Nat.le_refl _))
  try replace HLB := Lib.hid (HLB.out.below hb (Nat.le_refl _))
  try replace HLC := Lib.hid (HLC.out.below hb (Nat.le_refl _))
  try replace HLD := Lib.hid (HLD.out.below hb (Nat.le_refl _))
  try replace HU := Lib.hid (HU.out.below hb (Nat.le_refl _))
  try replace HV := Lib.hid (HV.out.below hb (Nat.le_refl _))
  try replace HZ := Lib.hid (HZ.out.below hb (Nat.le_refl _))
  try clear hb
  have HLA := Lib.hid hl_; clear hl_
  go_wp2_with fail
  refine (exV_c _).mono ?_
  rintro e w32 ⟨av5, rfl, hl_, hb⟩
  replace HB0 := Lib.hid (HB0.out.trans (hb.mono HB0.out.size))
  try replace HT := Lib.hid (HT.out.below hb (Nat.le_refl _))
  try replace HAPA := Lib.hid (HAPA.out.below hb (Nat.le_refl _))
  try replace HX := Lib.hid (HX.out.below hb (Nat.le_refl _))
  try replace HY := Lib.hid (HY.out.below hb (Nat.le_refl _))
  try replace HL := Lib.hid (HL.out.below hb (Nat.le_refl _))
  try replace HNN := Lib.hid (HNN.out.below hb (Nat.le_refl _))
  try replace HLA := Lib.hid (HLA.out.below hb (Nat.le_refl _))
  try replace HLB := Lib.hid (HLB.out.below hb (Nat.le_refl _))
  try replace HLC := Lib.hid (HLC.out.below hb (Nat.le_refl _))
  try replace HLD := Lib.hid (HLD.out.below hb (Nat.le_refl _))
  try replace HU := Lib.hid (HU.out.below hb (Nat.le_refl _))
  try replace HV := Lib.hid (HV.out.below hb (Nat.le_refl _))
  try replace HZ := Lib.hid (HZ.out.below hb (Nat.le_refl _))
  try clear hb
  have HLB := Lib.hid hl_; clear hl_
  go_wp2_with (refine build_law2 rfl (.tmp 61) (.tmp 62) rfl ⟨fD, af5⟩ ⟨vD, av5⟩ rfl rfl ?_)
  have HLD := Lib.hid (built_laws2 w32 ⟨fD, af5⟩ ⟨vD, av5⟩ 49 HLA.out HLB.out)
  have hb : Below w32.heap.size w32 (w32.alloc (.cells ((LawR.mk fD af5).cells ++ (LawR.mk vD av5).cells).toArray 49)) := (by repeat' (first | exact Below.refl _ _ | assumption | refine Below.alloc ?_ (by first | omega | (simp; done) | (simp; omega)) _ | refine Below.setCell ?_ (by first | omega | (simp; done) | (simp; omega)) _ | refine Below.drew ?_ | refine Below.drewN ?_ _ | refine Below.step (by assumption) (by first | omega | (simp; done) | (simp; omega)) ?_))
  replace HB0 := Lib.hid (HB0.out.trans (hb.mono HB0.out.size))
  try replace HT := Lib.hid (HT.out.below hb (Nat.le_refl _))
  try replace HAPA := Lib.hid (HAPA.out.below hb (Nat.le_refl _))
  try replace HX := Lib.hid (HX.out.below hb (Nat.le_refl _))
  try replace HY := Lib.hid (HY.out.below hb (Nat.le_refl _))
  try replace HL := Lib.hid (HL.out.below hb (Nat.le_refl _))
  try replace HNN := Lib.hid (HNN.out.below hb (Nat.le_refl _))
  try replace HLA := Lib.hid (HLA.out.below hb (Nat.le_refl _))
  try replace HLB := Lib.hid (HLB.out.below hb (Nat.le_refl _))
  try replace HLC := Lib.hid (HLC.out.below hb (Nat.le_refl _))
  try replace HLD := Lib.hid (HLD.out.below hb (Nat.le_refl _))
  try replace HU := Lib.hid (HU.out.below hb (Nat.le_refl _))
  try replace HV := Lib.hid (HV.out.below hb (Nat.le_refl _))
  try replace HZ := Lib.hid (HZ.out.below hb (Nat.le_refl _))
  try clear hb
  generalize w32.alloc (.cells ((LawR.mk fD af5).cells ++ (LawR.mk vD av5).cells).toArray 49) = w33 at *
  clear HLA HLB
  refine (split_c _ 2 2 [⟨vD, av4⟩, ⟨fD, af4⟩] _ 2 2 [⟨fD, af5⟩, ⟨vD, av5⟩] _ 3 3 [sA, sP, sA] w33 HLC.out HLD.out HAPA.out HT.out).mono ?_
  rw [show splitM (lawsD [⟨vD, av4⟩, ⟨fD, af4⟩]) (lawsD [⟨fD, af5⟩, ⟨vD, av5⟩]) [sA, sP, sA] = (1, true, 0) from exm4]
  rintro e w34 ⟨rfl, hb⟩
  clear HLC HLD
  replace HB0 := Lib.hid (HB0.out.trans (hb.mono HB0.out.size))
  try replace HT := Lib.hid (HT.out.below hb (Nat.le_refl _))
  try replace HAPA := Lib.hid (HAPA.out.below hb (Nat.le_refl _))
  try replace HX := Lib.hid (HX.out.below hb (Nat.le_refl _))
  try replace HY := Lib.hid (HY.out.below hb (Nat.le_refl _))
  try replace HL := Lib.hid (HL.out.below hb (Nat.le_refl _))
  try replace HNN := Lib.hid (HNN.out.below hb (Nat.le_refl _))
  try replace HLA := Lib.hid (HLA.out.below hb (Nat.le_refl _))
  try replace HLB := Lib.hid (HLB.out.below hb (Nat.le_refl _))
  try replace HLC := Lib.hid (HLC.out.below hb (Nat.le_refl _))
  try replace HLD := Lib.hid (HLD.out.below hb (Nat.le_refl _))
  try replace HU := Lib.hid (HU.out.below hb (Nat.le_refl _))
  try replace HV := Lib.hid (HV.out.below hb (Nat.le_refl _))
  try replace HZ := Lib.hid (HZ.out.below hb (Nat.le_refl _))
  try clear hb
  go_wp2_with fail
  refine (exA_c _).mono ?_
  rintro e w35 ⟨rfl, hb⟩
  replace HB0 := Lib.hid (HB0.out.trans (hb.mono HB0.out.size))
  try replace HT := Lib.hid (HT.out.below hb (Nat.le_refl _))
  try replace HAPA := Lib.hid (HAPA.out.below hb (Nat.le_refl _))
  try replace HX := Lib.hid (HX.out.below hb (Nat.le_refl _))
  try replace HY := Lib.hid (HY.out.below hb (Nat.le_refl _))
  try replace HL := Lib.hid (HL.out.below hb (Nat.le_refl _))
  try replace HNN := Lib.hid (HNN.out.below hb (Nat.le_refl _))
  try replace HLA := Lib.hid (HLA.out.below hb (Nat.le_refl _))
  try replace HLB := Lib.hid (HLB.out.below hb (Nat.le_refl _))
  try replace HLC := Lib.hid (HLC.out.below hb (Nat.le_refl _))
  try replace HLD := Lib.hid (HLD.out.below hb (Nat.le_refl _))
  try replace HU := Lib.hid (HU.out.below hb (Nat.le_refl _))
  try replace HV := Lib.hid (HV.out.below hb (Nat.le_refl _))
  try replace HZ := Lib.hid (HZ.out.below hb (Nat.le_refl _))
  try clear hb
  go_wp2_with fail
  refine (exB_c _).mono ?_
  rintro e w36 ⟨rfl, hb⟩
  replace HB0 := Lib.hid (HB0.out.trans (hb.mono HB0.out.size))
  try replace HT := Lib.hid (HT.out.below hb (Nat.le_refl _))
  try replace HAPA := Lib.hid (HAPA.out.below hb (Nat.le_refl _))
  try replace HX := Lib.hid (HX.out.below hb (Nat.le_refl _))
  try replace HY := Lib.hid (HY.out.below hb (Nat.le_refl _))
  try replace HL := Lib.hid (HL.out.below hb (Nat.le_refl _))
  try replace HNN := Lib.hid (HNN.out.below hb (Nat.le_refl _))
  try replace HLA := Lib.hid (HLA.out.below hb (Nat.le_refl _))
  try replace HLB := Lib.hid (HLB.out.below hb (Nat.le_refl _))
  try replace HLC := Lib.hid (HLC.out.below hb (Nat.le_refl _))
  try replace HLD := Lib.hid (HLD.out.below hb (Nat.le_refl _))
  try replace HU := Lib.hid (HU.out.below hb (Nat.le_refl _))
  try replace HV := Lib.hid (HV.out.below hb (Nat.le_refl _))
  try replace HZ := Lib.hid (HZ.out.below hb (Nat.le_refl _))
  try clear hb
  go_wp2_with fail
  have HU := Lib.hid (built_word w36 [sA, sB] 43 (by simp))
  have hb : Below w36.heap.size w36 (w36.alloc (.cells (wcells [sA, sB]).toArray 43)) := (by repeat' (first | exact Below.refl _ _ | assumption | refine Below.alloc ?_ (by first | omega | (simp; done) | (simp; omega)) _ | refine Below.setCell ?_ (by first | omega | (simp; done) | (simp; omega)) _ | refine Below.drew ?_ | refine Below.drewN ?_ _ | refine Below.step (by assumption) (by first | omega | (simp; done) | (simp; omega)) ?_))
  replace HB0 := Lib.hid (HB0.out.trans (hb.mono HB0.out.size))
  try replace HT := Lib.hid (HT.out.below hb (Nat.le_refl _))
  try replace HAPA := Lib.hid (HAPA.out.below hb (Nat.le_refl _))
  try replace HX := Lib.hid (HX.out.below hb (Nat.le_refl _))
  try replace HY := Lib.hid (HY.out.below hb (Nat.le_refl _))
  try replace HL := Lib.hid (HL.out.below hb (Nat.le_refl _))
  try replace HNN := Lib.hid (HNN.out.below hb (Nat.le_refl _))
  try replace HLA := Lib.hid (HLA.out.below hb (Nat.le_refl _))
  try replace HLB := Lib.hid (HLB.out.below hb (Nat.le_refl _))
  try replace HLC := Lib.hid (HLC.out.below hb (Nat.le_refl _))
  try replace HLD := Lib.hid (HLD.out.below hb (Nat.le_refl _))
  try replace HU := Lib.hid (HU.out.below hb (Nat.le_refl _))
  try replace HV := Lib.hid (HV.out.below hb (Nat.le_refl _))
  try replace HZ := Lib.hid (HZ.out.below hb (Nat.le_refl _))
  try clear hb
  rw [show w36.alloc (.cells #[.int .u32 sA.1, .int .u32 sA.2, .int .u32 sB.1, .int .u32 sB.2] 43) = w36.alloc (.cells (wcells [sA, sB]).toArray 43) from rfl]
  generalize w36.alloc (.cells (wcells [sA, sB]).toArray 43) = w37 at *
  refine (rEqual_c Ax _ nx 2 cx 2 [sA, sB] [sA, sB] w37 HX.out HU.out).mono ?_
  rw [show decide ([sA, sB] = [sA, sB]) = true from decide_eq_true rfl]
  rintro e w38 ⟨rfl, hb⟩
  clear HU HX
  replace HB0 := Lib.hid (HB0.out.trans (hb.mono HB0.out.size))
  try replace HT := Lib.hid (HT.out.below hb (Nat.le_refl _))
  try replace HAPA := Lib.hid (HAPA.out.below hb (Nat.le_refl _))
  try replace HX := Lib.hid (HX.out.below hb (Nat.le_refl _))
  try replace HY := Lib.hid (HY.out.below hb (Nat.le_refl _))
  try replace HL := Lib.hid (HL.out.below hb (Nat.le_refl _))
  try replace HNN := Lib.hid (HNN.out.below hb (Nat.le_refl _))
  try replace HLA := Lib.hid (HLA.out.below hb (Nat.le_refl _))
  try replace HLB := Lib.hid (HLB.out.below hb (Nat.le_refl _))
  try replace HLC := Lib.hid (HLC.out.below hb (Nat.le_refl _))
  try replace HLD := Lib.hid (HLD.out.below hb (Nat.le_refl _))
  try replace HU := Lib.hid (HU.out.below hb (Nat.le_refl _))
  try replace HV := Lib.hid (HV.out.below hb (Nat.le_refl _))
  try replace HZ := Lib.hid (HZ.out.below hb (Nat.le_refl _))
  try clear hb
  go_wp2_with fail
  refine (exA_c _).mono ?_
  rintro e w39 ⟨rfl, hb⟩
  replace HB0 := Lib.hid (HB0.out.trans (hb.mono HB0.out.size))
  try replace HT := Lib.hid (HT.out.below hb (Nat.le_refl _))
  try replace HAPA := Lib.hid (HAPA.out.below hb (Nat.le_refl _))
  try replace HX := Lib.hid (HX.out.below hb (Nat.le_refl _))
  try replace HY := Lib.hid (HY.out.below hb (Nat.le_refl _))
  try replace HL := Lib.hid (HL.out.below hb (Nat.le_refl _))
  try replace HNN := Lib.hid (HNN.out.below hb (Nat.le_refl _))
  try replace HLA := Lib.hid (HLA.out.below hb (Nat.le_refl _))
  try replace HLB := Lib.hid (HLB.out.below hb (Nat.le_refl _))
  try replace HLC := Lib.hid (HLC.out.below hb (Nat.le_refl _))
  try replace HLD := Lib.hid (HLD.out.below hb (Nat.le_refl _))
  try replace HU := Lib.hid (HU.out.below hb (Nat.le_refl _))
  try replace HV := Lib.hid (HV.out.below hb (Nat.le_refl _))
  try replace HZ := Lib.hid (HZ.out.below hb (Nat.le_refl _))
  try clear hb
  go_wp2_with fail
  refine (exP_c _).mono ?_
  rintro e w40 ⟨rfl, hb⟩
  replace HB0 := Lib.hid (HB0.out.trans (hb.mono HB0.out.size))
  try replace HT := Lib.hid (HT.out.below hb (Nat.le_refl _))
  try replace HAPA := Lib.hid (HAPA.out.below hb (Nat.le_refl _))
  try replace HX := Lib.hid (HX.out.below hb (Nat.le_refl _))
  try replace HY := Lib.hid (HY.out.below hb (Nat.le_refl _))
  try replace HL := Lib.hid (HL.out.below hb (Nat.le_refl _))
  try replace HNN := Lib.hid (HNN.out.below hb (Nat.le_refl _))
  try replace HLA := Lib.hid (HLA.out.below hb (Nat.le_refl _))
  try replace HLB := Lib.hid (HLB.out.below hb (Nat.le_refl _))
  try replace HLC := Lib.hid (HLC.out.below hb (Nat.le_refl _))
  try replace HLD := Lib.hid (HLD.out.below hb (Nat.le_refl _))
  try replace HU := Lib.hid (HU.out.below hb (Nat.le_refl _))
  try replace HV := Lib.hid (HV.out.below hb (Nat.le_refl _))
  try replace HZ := Lib.hid (HZ.out.below hb (Nat.le_refl _))
  try clear hb
  go_wp2_with fail
  have HU := Lib.hid (built_word w40 [sA, sP] 43 (by simp))
  have hb : Below w40.heap.size w40 (w40.alloc (.cells (wcells [sA, sP]).toArray 43)) := (by repeat' (first | exact Below.refl _ _ | assumption | refine Below.alloc ?_ (by first | omega | (simp; done) | (simp; omega)) _ | refine Below.setCell ?_ (by first | omega | (simp; done) | (simp; omega)) _ | refine Below.drew ?_ | refine Below.drewN ?_ _ | refine Below.step (by assumption) (by first | omega | (simp; done) | (simp; omega)) ?_))
  replace HB0 := Lib.hid (HB0.out.trans (hb.mono HB0.out.size))
  try replace HT := Lib.hid (HT.out.below hb (Nat.le_refl _))
  try replace HAPA := Lib.hid (HAPA.out.below hb (Nat.le_refl _))
  try replace HX := Lib.hid (HX.out.below hb (Nat.le_refl _))
  try replace HY := Lib.hid (HY.out.below hb (Nat.le_refl _))
  try replace HL := Lib.hid (HL.out.below hb (Nat.le_refl _))
  try replace HNN := Lib.hid (HNN.out.below hb (Nat.le_refl _))
  try replace HLA := Lib.hid (HLA.out.below hb (Nat.le_refl _))
  try replace HLB := Lib.hid (HLB.out.below hb (Nat.le_refl _))
  try replace HLC := Lib.hid (HLC.out.below hb (Nat.le_refl _))
  try replace HLD := Lib.hid (HLD.out.below hb (Nat.le_refl _))
  try replace HU := Lib.hid (HU.out.below hb (Nat.le_refl _))
  try replace HV := Lib.hid (HV.out.below hb (Nat.le_refl _))
  try replace HZ := Lib.hid (HZ.out.below hb (Nat.le_refl _))
  try clear hb
  rw [show w40.alloc (.cells #[.int .u32 sA.1, .int .u32 sA.2, .int .u32 sP.1, .int .u32 sP.2] 43) = w40.alloc (.cells (wcells [sA, sP]).toArray 43) from rfl]
  generalize w40.alloc (.cells (wcells [sA, sP]).toArray 43) = w41 at *
  refine (rEqual_c Ay _ ny 2 cy 2 [sA, sP] [sA, sP] w41 HY.out HU.out).mono ?_
  rw [show decide ([sA, sP] = [sA, sP]) = true from decide_eq_true rfl]
  rintro e w42 ⟨rfl, hb⟩
  clear HU HY
  replace HB0 := Lib.hid (HB0.out.trans (hb.mono HB0.out.size))
  try replace HT := Lib.hid (HT.out.below hb (Nat.le_refl _))
  try replace HAPA := Lib.hid (HAPA.out.below hb (Nat.le_refl _))
  try replace HX := Lib.hid (HX.out.below hb (Nat.le_refl _))
  try replace HY := Lib.hid (HY.out.below hb (Nat.le_refl _))
  try replace HL := Lib.hid (HL.out.below hb (Nat.le_refl _))
  try replace HNN := Lib.hid (HNN.out.below hb (Nat.le_refl _))
  try replace HLA := Lib.hid (HLA.out.below hb (Nat.le_refl _))
  try replace HLB := Lib.hid (HLB.out.below hb (Nat.le_refl _))
  try replace HLC := Lib.hid (HLC.out.below hb (Nat.le_refl _))
  try replace HLD := Lib.hid (HLD.out.below hb (Nat.le_refl _))
  try replace HU := Lib.hid (HU.out.below hb (Nat.le_refl _))
  try replace HV := Lib.hid (HV.out.below hb (Nat.le_refl _))
  try replace HZ := Lib.hid (HZ.out.below hb (Nat.le_refl _))
  try clear hb
  go_wp2_with fail
  refine (exA_c _).mono ?_
  rintro e w43 ⟨rfl, hb⟩
  replace HB0 := Lib.hid (HB0.out.trans (hb.mono HB0.out.size))
  try replace HT := Lib.hid (HT.out.below hb (Nat.le_refl _))
  try replace HAPA := Lib.hid (HAPA.out.below hb (Nat.le_refl _))
  try replace HX := Lib.hid (HX.out.below hb (Nat.le_refl _))
  try replace HY := Lib.hid (HY.out.below hb (Nat.le_refl _))
  try replace HL := Lib.hid (HL.out.below hb (Nat.le_refl _))
  try replace HNN := Lib.hid (HNN.out.below hb (Nat.le_refl _))
  try replace HLA := Lib.hid (HLA.out.below hb (Nat.le_refl _))
  try replace HLB := Lib.hid (HLB.out.below hb (Nat.le_refl _))
  try replace HLC := Lib.hid (HLC.out.below hb (Nat.le_refl _))
  try replace HLD := Lib.hid (HLD.out.below hb (Nat.le_refl _))
  try replace HU := Lib.hid (HU.out.below hb (Nat.le_refl _))
  try replace HV := Lib.hid (HV.out.below hb (Nat.le_refl _))
  try replace HZ := Lib.hid (HZ.out.below hb (Nat.le_refl _))
  try clear hb
  go_wp2_with fail
  refine (exP_c _).mono ?_
  rintro e w44 ⟨rfl, hb⟩
  replace HB0 := Lib.hid (HB0.out.trans (hb.mono HB0.out.size))
  try replace HT := Lib.hid (HT.out.below hb (Nat.le_refl _))
  try replace HAPA := Lib.hid (HAPA.out.below hb (Nat.le_refl _))
  try replace HX := Lib.hid (HX.out.below hb (Nat.le_refl _))
  try replace HY := Lib.hid (HY.out.below hb (Nat.le_refl _))
  try replace HL := Lib.hid (HL.out.below hb (Nat.le_refl _))
  try replace HNN := Lib.hid (HNN.out.below hb (Nat.le_refl _))
  try replace HLA := Lib.hid (HLA.out.below hb (Nat.le_refl _))
  try replace HLB := Lib.hid (HLB.out.below hb (Nat.le_refl _))
  try replace HLC := Lib.hid (HLC.out.below hb (Nat.le_refl _))
  try replace HLD := Lib.hid (HLD.out.below hb (Nat.le_refl _))
  try replace HU := Lib.hid (HU.out.below hb (Nat.le_refl _))
  try replace HV := Lib.hid (HV.out.below hb (Nat.le_refl _))
  try replace HZ := Lib.hid (HZ.out.below hb (Nat.le_refl _))
  try clear hb
  go_wp2_with fail
  have HU := Lib.hid (built_word w44 [sA, sP] 43 (by simp))
  have hb : Below w44.heap.size w44 (w44.alloc (.cells (wcells [sA, sP]).toArray 43)) := (by repeat' (first | exact Below.refl _ _ | assumption | refine Below.alloc ?_ (by first | omega | (simp; done) | (simp; omega)) _ | refine Below.setCell ?_ (by first | omega | (simp; done) | (simp; omega)) _ | refine Below.drew ?_ | refine Below.drewN ?_ _ | refine Below.step (by assumption) (by first | omega | (simp; done) | (simp; omega)) ?_))
  replace HB0 := Lib.hid (HB0.out.trans (hb.mono HB0.out.size))
  try replace HT := Lib.hid (HT.out.below hb (Nat.le_refl _))
  try replace HAPA := Lib.hid (HAPA.out.below hb (Nat.le_refl _))
  try replace HX := Lib.hid (HX.out.below hb (Nat.le_refl _))
  try replace HY := Lib.hid (HY.out.below hb (Nat.le_refl _))
  try replace HL := Lib.hid (HL.out.below hb (Nat.le_refl _))
  try replace HNN := Lib.hid (HNN.out.below hb (Nat.le_refl _))
  try replace HLA := Lib.hid (HLA.out.below hb (Nat.le_refl _))
  try replace HLB := Lib.hid (HLB.out.below hb (Nat.le_refl _))
  try replace HLC := Lib.hid (HLC.out.below hb (Nat.le_refl _))
  try replace HLD := Lib.hid (HLD.out.below hb (Nat.le_refl _))
  try replace HU := Lib.hid (HU.out.below hb (Nat.le_refl _))
  try replace HV := Lib.hid (HV.out.below hb (Nat.le_refl _))
  try replace HZ := Lib.hid (HZ.out.below hb (Nat.le_refl _))
  try clear hb
  rw [show w44.alloc (.cells #[.int .u32 sA.1, .int .u32 sA.2, .int .u32 sP.1, .int .u32 sP.2] 43) = w44.alloc (.cells (wcells [sA, sP]).toArray 43) from rfl]
  generalize w44.alloc (.cells (wcells [sA, sP]).toArray 43) = w45 at *
  refine (exA_c _).mono ?_
  rintro e w46 ⟨rfl, hb⟩
  replace HB0 := Lib.hid (HB0.out.trans (hb.mono HB0.out.size))
  try replace HT := Lib.hid (HT.out.below hb (Nat.le_refl _))
  try replace HAPA := Lib.hid (HAPA.out.below hb (Nat.le_refl _))
  try replace HX := Lib.hid (HX.out.below hb (Nat.le_refl _))
  try replace HY := Lib.hid (HY.out.below hb (Nat.le_refl _))
  try replace HL := Lib.hid (HL.out.below hb (Nat.le_refl _))
  try replace HNN := Lib.hid (HNN.out.below hb (Nat.le_refl _))
  try replace HLA := Lib.hid (HLA.out.below hb (Nat.le_refl _))
  try replace HLB := Lib.hid (HLB.out.below hb (Nat.le_refl _))
  try replace HLC := Lib.hid (HLC.out.below hb (Nat.le_refl _))
  try replace HLD := Lib.hid (HLD.out.below hb (Nat.le_refl _))
  try replace HU := Lib.hid (HU.out.below hb (Nat.le_refl _))
  try replace HV := Lib.hid (HV.out.below hb (Nat.le_refl _))
  try replace HZ := Lib.hid (HZ.out.below hb (Nat.le_refl _))
  try clear hb
  go_wp2_with fail
  refine (exP_c _).mono ?_
  rintro e w47 ⟨rfl, hb⟩
  replace HB0 := Lib.hid (HB0.out.trans (hb.mono HB0.out.size))
  try replace HT := Lib.hid (HT.out.below hb (Nat.le_refl _))
  try replace HAPA := Lib.hid (HAPA.out.below hb (Nat.le_refl _))
  try replace HX := Lib.hid (HX.out.below hb (Nat.le_refl _))
  try replace HY := Lib.hid (HY.out.below hb (Nat.le_refl _))
  try replace HL := Lib.hid (HL.out.below hb (Nat.le_refl _))
  try replace HNN := Lib.hid (HNN.out.below hb (Nat.le_refl _))
  try replace HLA := Lib.hid (HLA.out.below hb (Nat.le_refl _))
  try replace HLB := Lib.hid (HLB.out.below hb (Nat.le_refl _))
  try replace HLC := Lib.hid (HLC.out.below hb (Nat.le_refl _))
  try replace HLD := Lib.hid (HLD.out.below hb (Nat.le_refl _))
  try replace HU := Lib.hid (HU.out.below hb (Nat.le_refl _))
  try replace HV := Lib.hid (HV.out.below hb (Nat.le_refl _))
  try replace HZ := Lib.hid (HZ.out.below hb (Nat.le_refl _))
  try clear hb
  go_wp2_with fail
  have HV := Lib.hid (built_word w47 [sA, sP] 43 (by simp))
  have hb : Below w47.heap.size w47 (w47.alloc (.cells (wcells [sA, sP]).toArray 43)) := (by repeat' (first | exact Below.refl _ _ | assumption | refine Below.alloc ?_ (by first | omega | (simp; done) | (simp; omega)) _ | refine Below.setCell ?_ (by first | omega | (simp; done) | (simp; omega)) _ | refine Below.drew ?_ | refine Below.drewN ?_ _ | refine Below.step (by assumption) (by first | omega | (simp; done) | (simp; omega)) ?_))
  replace HB0 := Lib.hid (HB0.out.trans (hb.mono HB0.out.size))
  try replace HT := Lib.hid (HT.out.below hb (Nat.le_refl _))
  try replace HAPA := Lib.hid (HAPA.out.below hb (Nat.le_refl _))
  try replace HX := Lib.hid (HX.out.below hb (Nat.le_refl _))
  try replace HY := Lib.hid (HY.out.below hb (Nat.le_refl _))
  try replace HL := Lib.hid (HL.out.below hb (Nat.le_refl _))
  try replace HNN := Lib.hid (HNN.out.below hb (Nat.le_refl _))
  try replace HLA := Lib.hid (HLA.out.below hb (Nat.le_refl _))
  try replace HLB := Lib.hid (HLB.out.below hb (Nat.le_refl _))
  try replace HLC := Lib.hid (HLC.out.below hb (Nat.le_refl _))
  try replace HLD := Lib.hid (HLD.out.below hb (Nat.le_refl _))
  try replace HU := Lib.hid (HU.out.below hb (Nat.le_refl _))
  try replace HV := Lib.hid (HV.out.below hb (Nat.le_refl _))
  try replace HZ := Lib.hid (HZ.out.below hb (Nat.le_refl _))
  try clear hb
  rw [show w47.alloc (.cells #[.int .u32 sA.1, .int .u32 sA.2, .int .u32 sP.1, .int .u32 sP.2] 43) = w47.alloc (.cells (wcells [sA, sP]).toArray 43) from rfl, show w47.heap.size + 1 = (w47.alloc (.cells (wcells [sA, sP]).toArray 43)).heap.size by simp]
  generalize w47.alloc (.cells (wcells [sA, sP]).toArray 43) = w48 at *
  obtain ⟨k44, e44⟩ : ∃ k, k = w44.heap.size := ⟨_, rfl⟩
  obtain ⟨k47, e47⟩ : ∃ k, k = w47.heap.size := ⟨_, rfl⟩
  rw [← e44, ← e47]
  rw [← e44] at HU
  rw [← e47] at HV
  clear e44 e47
  have HZ := Lib.hid (built_words w48 [(some ⟨k3, 0, none⟩, 3, 3, [sA, sP, sA]), (some ⟨k44, 0, none⟩, 2, 2, [sA, sP]), (some ⟨k47, 0, none⟩, 2, 2, [sA, sP])] 23 (by simp) (fun p hp => by
    simp only [List.mem_cons, List.not_mem_nil, or_false] at hp
    rcases hp with rfl | rfl | rfl
    · exact HAPA.out
    · exact HU.out
    · exact HV.out))
  have hb : Below w48.heap.size w48 (w48.alloc (.cells (([(some ⟨k3, 0, none⟩, 3, 3, [sA, sP, sA]), (some ⟨k44, 0, none⟩, 2, 2, [sA, sP]), (some ⟨k47, 0, none⟩, 2, 2, [sA, sP])] : List Part).map Part.val).toArray 23)) := (by repeat' (first | exact Below.refl _ _ | assumption | refine Below.alloc ?_ (by first | omega | (simp; done) | (simp; omega)) _ | refine Below.setCell ?_ (by first | omega | (simp; done) | (simp; omega)) _ | refine Below.drew ?_ | refine Below.drewN ?_ _ | refine Below.step (by assumption) (by first | omega | (simp; done) | (simp; omega)) ?_))
  replace HB0 := Lib.hid (HB0.out.trans (hb.mono HB0.out.size))
  try replace HT := Lib.hid (HT.out.below hb (Nat.le_refl _))
  try replace HAPA := Lib.hid (HAPA.out.below hb (Nat.le_refl _))
  try replace HX := Lib.hid (HX.out.below hb (Nat.le_refl _))
  try replace HY := Lib.hid (HY.out.below hb (Nat.le_refl _))
  try replace HL := Lib.hid (HL.out.below hb (Nat.le_refl _))
  try replace HNN := Lib.hid (HNN.out.below hb (Nat.le_refl _))
  try replace HLA := Lib.hid (HLA.out.below hb (Nat.le_refl _))
  try replace HLB := Lib.hid (HLB.out.below hb (Nat.le_refl _))
  try replace HLC := Lib.hid (HLC.out.below hb (Nat.le_refl _))
  try replace HLD := Lib.hid (HLD.out.below hb (Nat.le_refl _))
  try replace HU := Lib.hid (HU.out.below hb (Nat.le_refl _))
  try replace HV := Lib.hid (HV.out.below hb (Nat.le_refl _))
  try replace HZ := Lib.hid (HZ.out.below hb (Nat.le_refl _))
  try clear hb
  rw [show w48.alloc (.cells #[.slice (some ⟨k3, 0, none⟩) 3 3, .slice (some ⟨k44, 0, none⟩) 2 2, .slice (some ⟨k47, 0, none⟩) 2 2] 23) = w48.alloc (.cells (([(some ⟨k3, 0, none⟩, 3, 3, [sA, sP, sA]), (some ⟨k44, 0, none⟩, 2, 2, [sA, sP]), (some ⟨k47, 0, none⟩, 2, 2, [sA, sP])] : List Part).map Part.val).toArray 23) from rfl]
  generalize w48.alloc (.cells (([(some ⟨k3, 0, none⟩, 3, 3, [sA, sP, sA]), (some ⟨k44, 0, none⟩, 2, 2, [sA, sP]), (some ⟨k47, 0, none⟩, 2, 2, [sA, sP])] : List Part).map Part.val).toArray 23) = w49 at *
  clear HU HV
  refine (rSame_c Al _ nl 3 cl 3 [[sA, sP, sA], [sA, sP], [sA, sP]] [[sA, sP, sA], [sA, sP], [sA, sP]] w49 HL.out HZ.out).mono ?_
  rw [show decide ([[sA, sP, sA], [sA, sP], [sA, sP]] = [[sA, sP, sA], [sA, sP], [sA, sP]]) = true from decide_eq_true rfl]
  rintro e w50 ⟨rfl, hb⟩
  clear HZ HL
  replace HB0 := Lib.hid (HB0.out.trans (hb.mono HB0.out.size))
  try replace HT := Lib.hid (HT.out.below hb (Nat.le_refl _))
  try replace HAPA := Lib.hid (HAPA.out.below hb (Nat.le_refl _))
  try replace HX := Lib.hid (HX.out.below hb (Nat.le_refl _))
  try replace HY := Lib.hid (HY.out.below hb (Nat.le_refl _))
  try replace HL := Lib.hid (HL.out.below hb (Nat.le_refl _))
  try replace HNN := Lib.hid (HNN.out.below hb (Nat.le_refl _))
  try replace HLA := Lib.hid (HLA.out.below hb (Nat.le_refl _))
  try replace HLB := Lib.hid (HLB.out.below hb (Nat.le_refl _))
  try replace HLC := Lib.hid (HLC.out.below hb (Nat.le_refl _))
  try replace HLD := Lib.hid (HLD.out.below hb (Nat.le_refl _))
  try replace HU := Lib.hid (HU.out.below hb (Nat.le_refl _))
  try replace HV := Lib.hid (HV.out.below hb (Nat.le_refl _))
  try replace HZ := Lib.hid (HZ.out.below hb (Nat.le_refl _))
  try clear hb
  go_wp2_with fail
  have HW := Lib.hid (built_ints w50 [1, 2] 3 (by simp))
  have hb : Below w50.heap.size w50 (w50.alloc (.cells (([1, 2] : List Int).map (Value.int .i64)).toArray 3)) := (by repeat' (first | exact Below.refl _ _ | assumption | refine Below.alloc ?_ (by first | omega | (simp; done) | (simp; omega)) _ | refine Below.setCell ?_ (by first | omega | (simp; done) | (simp; omega)) _ | refine Below.drew ?_ | refine Below.drewN ?_ _ | refine Below.step (by assumption) (by first | omega | (simp; done) | (simp; omega)) ?_))
  replace HB0 := Lib.hid (HB0.out.trans (hb.mono HB0.out.size))
  try replace HT := Lib.hid (HT.out.below hb (Nat.le_refl _))
  try replace HAPA := Lib.hid (HAPA.out.below hb (Nat.le_refl _))
  try replace HX := Lib.hid (HX.out.below hb (Nat.le_refl _))
  try replace HY := Lib.hid (HY.out.below hb (Nat.le_refl _))
  try replace HL := Lib.hid (HL.out.below hb (Nat.le_refl _))
  try replace HNN := Lib.hid (HNN.out.below hb (Nat.le_refl _))
  try replace HLA := Lib.hid (HLA.out.below hb (Nat.le_refl _))
  try replace HLB := Lib.hid (HLB.out.below hb (Nat.le_refl _))
  try replace HLC := Lib.hid (HLC.out.below hb (Nat.le_refl _))
  try replace HLD := Lib.hid (HLD.out.below hb (Nat.le_refl _))
  try replace HU := Lib.hid (HU.out.below hb (Nat.le_refl _))
  try replace HV := Lib.hid (HV.out.below hb (Nat.le_refl _))
  try replace HZ := Lib.hid (HZ.out.below hb (Nat.le_refl _))
  try clear hb
  rw [show w50.alloc (.cells #[.int .i64 1, .int .i64 2] 3) = w50.alloc (.cells (([1, 2] : List Int).map (Value.int .i64)).toArray 3) from rfl]
  generalize w50.alloc (.cells (([1, 2] : List Int).map (Value.int .i64)).toArray 3) = w51 at *
  refine (numbers_c An _ nn 2 cn 2 [1, 2] [1, 2] w51 HNN.out HW.out).mono ?_
  rw [show decide (([1, 2] : List Int) = [1, 2]) = true from decide_eq_true rfl]
  rintro e w52 ⟨rfl, hb⟩
  clear HW HNN
  replace HB0 := Lib.hid (HB0.out.trans (hb.mono HB0.out.size))
  try replace HT := Lib.hid (HT.out.below hb (Nat.le_refl _))
  try replace HAPA := Lib.hid (HAPA.out.below hb (Nat.le_refl _))
  try replace HX := Lib.hid (HX.out.below hb (Nat.le_refl _))
  try replace HY := Lib.hid (HY.out.below hb (Nat.le_refl _))
  try replace HL := Lib.hid (HL.out.below hb (Nat.le_refl _))
  try replace HNN := Lib.hid (HNN.out.below hb (Nat.le_refl _))
  try replace HLA := Lib.hid (HLA.out.below hb (Nat.le_refl _))
  try replace HLB := Lib.hid (HLB.out.below hb (Nat.le_refl _))
  try replace HLC := Lib.hid (HLC.out.below hb (Nat.le_refl _))
  try replace HLD := Lib.hid (HLD.out.below hb (Nat.le_refl _))
  try replace HU := Lib.hid (HU.out.below hb (Nat.le_refl _))
  try replace HV := Lib.hid (HV.out.below hb (Nat.le_refl _))
  try replace HZ := Lib.hid (HZ.out.below hb (Nat.le_refl _))
  try clear hb
  go_wp2
  go_ret
  exact ⟨rfl, HB0.out⟩

end Go.Proofs.YtfgilinjaldhhaaGreatDoor

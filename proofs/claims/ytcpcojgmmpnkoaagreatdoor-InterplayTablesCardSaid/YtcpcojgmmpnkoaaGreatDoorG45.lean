/-
  ablautlaw12: the examples' sounds and laws; few; ints.
  interplay: Commute, Feeds.
  The examples of chapter 12 hold.
-/
import Derived.Test.YtcpcojgmmpnkoaaGreatDoorG34
import Derived.Test.YtcpcojgmmpnkoaaGreatDoorG18
import Derived.Test.YtcpcojgmmpnkoaaGreatDoorG41
import Derived.Test.YtcpcojgmmpnkoaaGreatDoorG44
set_option linter.unusedVariables false
set_option linter.unusedSimpArgs false
set_option maxRecDepth 100000
set_option maxHeartbeats 4000000
namespace Go.Proofs.YtcpcojgmmpnkoaaGreatDoor
open Go.RowKit Go.Shelf
theorem exA12_c (w : World) : Calls Tryz.prog 93 #[] w fun e w' => e = .returned (sndV sA.1 sA.2) ∧ Below w.heap.size w w' := by
 go_enter Tryz.func93, Tryz.ntmps93
 go_wp2
 refine bodyPost_ret (results_cell_snd Tryz.results93 _ _ w.heap.size 5 2 rfl ?_) rfl ⟨rfl, ?_⟩
 ·exact heap_new_at rfl
 ·exact bel
theorem exP12_c (w : World) : Calls Tryz.prog 94 #[] w fun e w' => e = .returned (sndV sP.1 sP.2) ∧ Below w.heap.size w w' := by
 go_enter Tryz.func94, Tryz.ntmps94
 go_wp2
 refine bodyPost_ret (results_cell_snd Tryz.results94 _ _ w.heap.size 2 5 rfl ?_) rfl ⟨rfl, ?_⟩
 ·exact heap_new_at rfl
 ·exact bel
theorem exF12_c (w : World) : Calls Tryz.prog 95 #[] w (RetLaw w fD) := by
 obtain ⟨a, ha⟩ : ∃ a : LawA, a = { Al := none, cl := 0, Ar := none, cr := 0, Ai := some ⟨w.heap.size + 1, 0, none⟩, ci := 1, Ao := none, co := 0 } := ⟨_, rfl⟩
 go_enter Tryz.func95, Tryz.ntmps95
 go_wp2_with (refine store_law rfl (.tmp 0) (.tmp 4) rfl w.heap.size fD a rfl (by rw [ha]; rfl) (t := 34) ((heap_old_at (by simp)).trans (heap_new_at rfl)) rfl ?_; intro W1 g1 g2 g3)
 have h1 := (g2.block (w.heap.size + 1) (by simp) (by omega)).trans (heap_new_at (by simp))
 refine bodyPost_ret (results_cell_law Tryz.results95 _ _ w.heap.size fD a rfl g1) rfl ⟨a, rfl, ?_, ?_⟩
 ·subst ha
  exact ⟨FSl_nil _, FSl_nil _, one_word (s := (4, 0)) h1, ⟨Cells.nil _ _, rfl⟩, by decide⟩
 ·exact Below.trans bel (g2.to_below (B := w.heap.size) (fun k hk => by omega) (by simp; omega))
theorem one_out {w : World} {b : Nat} {o : OutD} {t : TypeId} (h : w.heap[b]? = some (.cells o.cells.toArray t (0, 0))) : Recs OutD.cells 6 w (some ⟨b, 0, none⟩) 1 1 [o] :=
 ⟨⟨rfl, rr, (by decide : 1 ≤ maxLen), (fun h => by cases h), fun _ => ⟨b, 0, rfl, lt_of_block h, fun j v hv => by rw [Nat.zero_add]; exact cell_at_heap h (by simpa using hv)⟩⟩, rfl⟩
theorem exV12_c (w : World) : Calls Tryz.prog 96 #[] w (RetLaw w vD) := by
 obtain ⟨a, ha⟩ : ∃ a : LawA, a = { Al := none, cl := 0, Ar := none, cr := 0, Ai := some ⟨w.heap.size + 1 + 1, 0, none⟩, ci := 1, Ao := some ⟨w.heap.size + 1 + 1 + 1, 0, none⟩, co := 1 } := ⟨_, rfl⟩
 go_enter Tryz.func96, Tryz.ntmps96
 go_wp2_with (refine store_law rfl (.tmp 0) (.tmp 11) rfl w.heap.size vD a rfl (by rw [ha]; rfl) (t := 34) (by repeat (first | exact heap_new_at sd | rw [heap_old_at sd])) rfl ?_; intro W1 g1 g2 g3)
 have h1 := (g2.block (w.heap.size + 1 + 1) (by simp) (by omega)).trans (show _ = some (.cells #[.int .u32 2, .int .u32 0] 24 (0, 0)) by repeat (first | exact heap_new_at sd | rw [heap_old_at sd]))
 have h2 := (g2.block (w.heap.size + 1 + 1 + 1) (by simp) (by omega)).trans (show _ = some (.cells #[.int .i64 0, .int .u32 0, .int .u32 1, .int .u32 0, .int .u32 0, .int .i64 0] 30 (0, 0)) by repeat (first | exact heap_new_at sd | rw [heap_old_at sd]))
 refine bodyPost_ret (results_cell_law Tryz.results96 _ _ w.heap.size vD a rfl g1) rfl ⟨a, rfl, ?_, ?_⟩
 ·subst ha
  exact ⟨FSl_nil _, FSl_nil _, one_word (s := (2, 0)) h1, one_out (o := ⟨0, 0, 1, 0, 0, 0⟩) h2, by decide⟩
 ·exact Below.trans bel (g2.to_below (B := w.heap.size) (fun k hk => by omega) (by simp; omega))
def eD : LawD := { name := ⟨#[69]⟩, left := (⟨2, 0, 0, false, 0, 0⟩, .nil), right := (⟨0, 0, 0, false, 0, 0⟩, .nil), ifs := [], outs := [⟨-1, 0, 5, 2, 0, 0⟩], mode := 1 }
theorem exE12_c (w : World) : Calls Tryz.prog 97 #[] w (RetLaw w eD) := by
 go_enter Tryz.func97, Tryz.ntmps97
 go_wp2_with fail
 have kg : (w.alloc (.cells (lawZ.cells) 34)).heap[w.heap.size]? = some (.cells (lawZ.cells) 34 (0, 0)) := heap_new_at rfl
 have kB : Below w.heap.size w (w.alloc (.cells (lawZ.cells) 34)) := bel
 refine (exA12_c _).mono ?_
 rintro e w1 ⟨rfl, hb1⟩
 have hg := (hb1.block w.heap.size (lt_of_block kg)).trans kg
 have hB1 : Below w.heap.size w w1 := kB.trans (hb1.mono kB.size)
 have hl := lt_of_block hg
 clear hb1 kg kB
 obtain ⟨a, ha⟩ : ∃ a : LawA, a = { Al := none, cl := 0, Ar := none, cr := 0, Ai := none, ci := 0, Ao := some ⟨w1.heap.size, 0, none⟩, co := 1 } := ⟨_, rfl⟩
 go_wp2_with (refine store_law rfl (.tmp 0) (.tmp 5) rfl w.heap.size eD a rfl (by rw [ha]; rfl) (t := 34) ((heap_old_at (by omega)).trans hg) rfl ?_; intro W1 g1 g2 g3)
 have h2 := (g2.block w1.heap.size (by simp) (by omega)).trans (show _ = some (.cells #[.int .i64 (-1), .int .u32 0, .int .u32 5, .int .u32 2, .int .u32 0, .int .i64 0] 30 (0, 0)) from heap_new_at rfl)
 refine bodyPost_ret (results_cell_law Tryz.results97 _ _ w.heap.size eD a rfl g1) rfl ⟨a, rfl, ?_, ?_⟩
 ·subst ha
  exact ⟨FSl_nil _, FSl_nil _, Cells.nil _ _, one_out (o := ⟨-1, 0, 5, 2, 0, 0⟩) h2, by decide⟩
 ·exact (hB1.alloc hB1.size _).trans ((g2.to_below (B := w.heap.size) (fun k hk => by omega) (by have := hB1.size; simp; omega)))
def FewB (n : Nat) (m : Int) (n' : Nat) (e : Ending) : Prop := ∃ b : Bool, e = .returned (.bool b) ∧ (b = true → (n : Int) ≤ m ∧ n' ≤ 12)
theorem few_c (A : Option Addr) (n c : Nat) (xs : List LawR) (m : Int) (A' : Option Addr) (n' c' : Nat) (wss : List (List Snd)) (w : World) (hx : IsLaws w A n c xs) (hw : IsWords w A' n' c' wss) :
  Calls Tryz.prog 38 #[.slice A n c, .int .i64 m, .slice A' n' c'] w fun e w' => FewB n m n' e ∧ Below w.heap.size w w' := by
 have hmx := hx.max
 have hmw := hw.max
 have HX := hI hx; clear hx hw
 by_cases h1 : (n : Int) ≤ m
 ·by_cases h2 : n' ≤ 12
  ·have h2' : (n' : Int) ≤ 12 := by omega
   go_enter Tryz.func38, Tryz.ntmps38
   go_wp2_with fail
   refine (reps_c A n c xs w HX.out).mono ?_
   rintro e w1 ⟨⟨k, rfl⟩, hB1⟩
   go_wp2
   go_ret
   exact ⟨⟨_, rfl, fun _ => ⟨h1, h2⟩⟩, hB1⟩
  ·have h2' : ¬ ((n' : Int) ≤ 12) := by omega
   go_enter Tryz.func38, Tryz.ntmps38
   go_wp2
   go_ret
   exact ⟨⟨false, rfl, fun h => by cases h⟩, Below.refl _ _⟩
 ·go_enter Tryz.func38, Tryz.ntmps38
  go_wp2
  go_ret
  exact ⟨⟨false, rfl, fun h => by cases h⟩, Below.refl _ _⟩
def comB (a b : LawD) (ws : List Snd) : Bool := (relM a b ws).2 == 0 && !orderedB a b ws
theorem comB_bad {a b : LawD} {ws : List Snd} {er : Int} (h : relM a b ws = (0, er)) (he : er ≠ 0) : comB a b ws = false := by unfold comB; rw [h]; simp [he]
theorem comB_good {a b : LawD} {ws : List Snd} (h : relM a b ws = (relN a b ws, 0)) : comB a b ws = !orderedB a b ws := by unfold comB; rw [h]; simp
theorem relN_bits (a b : LawD) (ws : List Snd) : ∃ c1 c2 c3 c4 : Bool, relN a b ws = bitsR c1 c2 c3 c4 (!orderedB a b ws) := ⟨_, _, _, _, by unfold relN orderedB; rw [Bool.not_not]⟩
def fedC (a b : LawD) (ws : List Snd) : Bool := decide (ws = (applyM b ws).2) && !decide ((applyM a ws).2 = (applyM b (applyM a ws).2).2)
def fedB (a b : LawD) (ws : List Snd) : Bool := (relM a b ws).2 == 0 && fedC a b ws
theorem fedB_bad {a b : LawD} {ws : List Snd} {er : Int} (h : relM a b ws = (0, er)) (he : er ≠ 0) : fedB a b ws = false := by unfold fedB; rw [h]; simp [he]
theorem fedB_good {a b : LawD} {ws : List Snd} (h : relM a b ws = (relN a b ws, 0)) : fedB a b ws = fedC a b ws := by unfold fedB; rw [h]; simp
theorem commute_c (la : LawD) (aa : LawA) (lb : LawD) (ab : LawA) (A : Option Addr) (n c : Nat) (ws : List Snd) (w : World) (hla : LawAt w la aa) (hlb : LawAt w lb ab) (hw : IsWord w A n c ws) (hT : TabOK w) :
  Calls Tryz.prog 35 #[lawV la aa, lawV lb ab, .slice A n c] w fun e w' => e = .returned (.tuple #[.bool (comB la lb ws), .int .i64 (relM la lb ws).2]) ∧ Below w.heap.size w w' := by
 have HLA := hI hla; clear hla
 have HLB := hI hlb; clear hlb
 have HW := hI hw; clear hw
 have HT := hI hT; clear hT
 obtain ⟨W1, hW1, hr1, hl1, hB1, hz1⟩ := law_box w la aa
 obtain ⟨W2, hW2, hr2, hl2, hB2, hz2⟩ := law_box W1 lb ab
 have HS2 : Hid (RelSt w w.heap.size W1.heap.size la aa lb ab W2) := ⟨hB1.trans (hB2.mono hB1.size), (hB2.block _ hl1).trans hr1, hr2⟩
 clear hr1 hr2 hB1 hB2
 go_enter Tryz.func35, Tryz.ntmps35
 go_wp2_with (first | (refine load_law rfl (.tmp 3) rfl w.heap.size la aa rfl HS2.out.hA ?_) | (refine load_law rfl (.tmp 4) rfl W1.heap.size lb ab rfl HS2.out.hB ?_))
 refine (relation_c la aa lb ab A n c ws W2 (HLA.out.below HS2.out.b rr) (HLB.out.below HS2.out.b rr) (HW.out.below HS2.out.b rr) (HT.out.below HS2.out.b rr)).mono ?_
 rintro e w3 ⟨rfl, hb⟩
 have HB3 := hI (HS2.out.b.trans (hb.mono HS2.out.b.size)); clear hb hW1 hW2 HS2
 rcases rel_cases la lb ws with ⟨er, her, h1, _⟩ | ⟨_, _, _, _, h1, _⟩
 ·have HC := hI (comB_bad h1 her)
  have HR := hI h1
  rw [h1]
  have h2 : (er == 0) = false := by simpa using her
  clear h1 her
  go_wp2
  go_ret2
  exact ⟨by rw [HC.out, HR.out]; rfl, HB3.out⟩
 ·have HC := hI (comB_good h1)
  have HR := hI h1
  rw [h1]
  clear h1
  obtain ⟨c1, c2, c3, c4, hm⟩ := relN_bits la lb ws
  rw [hm]
  clear hm
  obtain ⟨o, ho⟩ : ∃ o, o = orderedB la lb ws := ⟨_, rfl⟩
  rw [← ho] at HC ⊢
  clear ho
  go_wp2
  go_ret2
  refine ⟨?_, HB3.out⟩
  rw [HC.out, HR.out]
  clear HC HR HB3
  cases c1 <;> cases c2 <;> cases c3 <;> cases c4 <;> cases o <;> rfl
theorem feeds_c (la : LawD) (aa : LawA) (lb : LawD) (ab : LawA) (A : Option Addr) (n c : Nat) (ws : List Snd) (w : World) (hla : LawAt w la aa) (hlb : LawAt w lb ab) (hw : IsWord w A n c ws) (hT : TabOK w) :
  Calls Tryz.prog 31 #[lawV la aa, lawV lb ab, .slice A n c] w fun e w' => e = .returned (.tuple #[.bool (fedB la lb ws), .int .i64 (relM la lb ws).2]) ∧ Below w.heap.size w w' := by
 have HLA := hI hla; clear hla
 have HLB := hI hlb; clear hlb
 have HW := hI hw; clear hw
 have HT := hI hT; clear hT
 obtain ⟨W1, hW1, hr1, hl1, hB1, hz1⟩ := law_box w la aa
 obtain ⟨W2, hW2, hr2, hl2, hB2, hz2⟩ := law_box W1 lb ab
 have HS2 : Hid (RelSt w w.heap.size W1.heap.size la aa lb ab W2) := ⟨hB1.trans (hB2.mono hB1.size), (hB2.block _ hl1).trans hr1, hr2⟩
 clear hr1 hr2 hB1 hB2
 go_enter Tryz.func31, Tryz.ntmps31
 go_wp2_with (first | (refine load_law rfl (.tmp 3) rfl w.heap.size la aa rfl HS2.out.hA ?_) | (refine load_law rfl (.tmp 4) rfl W1.heap.size lb ab rfl HS2.out.hB ?_))
 refine (relation_c la aa lb ab A n c ws W2 (HLA.out.below HS2.out.b rr) (HLB.out.below HS2.out.b rr) (HW.out.below HS2.out.b rr) (HT.out.below HS2.out.b rr)).mono ?_
 rintro e w3 ⟨rfl, hb⟩
 have HB3 := hI (HS2.out.b.trans (hb.mono HS2.out.b.size)); clear hb hW1 hW2 HS2
 rcases rel_cases la lb ws with ⟨er, her, h1, _⟩ | ⟨_, _, _, _, h1, _⟩
 ·have HC := hI (fedB_bad h1 her)
  have HR := hI h1
  rw [h1]
  have h2 : (er == 0) = false := by simpa using her
  clear h1 her
  go_wp2
  go_ret2
  exact ⟨by rw [HC.out, HR.out]; rfl, HB3.out⟩
 ·have HC := hI (fedB_good h1)
  have HR := hI h1
  rw [h1]
  clear h1
  rw [show relN la lb ws = bitsR _ _ _ _ _ from rfl]
  unfold fedC at HC
  generalize decide (ws = (applyM lb ws).2) = c1 at *
  generalize decide ((applyM la ws).2 = (applyM lb (applyM la ws).2).2) = c2 at *
  generalize decide (ws = (applyM la ws).2) = c3 at *
  generalize decide ((applyM lb ws).2 = (applyM la (applyM lb ws).2).2) = c4 at *
  generalize decide ((applyM lb (applyM la ws).2).2 = (applyM la (applyM lb ws).2).2) = o at *
  go_wp2
  go_ret2
  refine ⟨?_, HB3.out⟩
  rw [HC.out, HR.out]
  clear HC HR HB3
  cases c1 <;> cases c2 <;> cases c3 <;> cases c4 <;> cases o <;> rfl
theorem exr1 : relM fD vD [sA, sP, sA] = (18, 0) := by kernel_rfl
theorem exr2 : fedB eD vD [sP, sA] = true := by kernel_rfl
theorem exr3 : (relM eD vD [sP, sA]).2 = 0 := by kernel_rfl
theorem exr4 : matM [vD, fD] 0 [[sP, sA], [sA, sP, sA]] = (1, true, 0) := by kernel_rfl
theorem exr5 : blocksM [vD, fD] [[sA, sP, sA]] = (0, [0, 1]) := by kernel_rfl
theorem works12_c (w : World) (hT : TabOK w) : Calls Tryz.prog 37 #[] w fun e w' => e = .returned (.bool true) ∧ Below w.heap.size w w' := by
 have HT := hI hT; clear hT
 have HB0 := hI (Below.refl w.heap.size w)
 go_enter Tryz.func37, Tryz.ntmps37
 go_wp2_with fail
 refine (exA12_c _).mono ?_
 rintro e w1 ⟨rfl, hb⟩
 replace HB0 := hI (HB0.out.trans (hb.mono HB0.out.size))
 try replace HT := hI (HT.out.below hb rr)
 try replace HAPA := hI (HAPA.out.below hb rr)
 try replace HPA := hI (HPA.out.below hb rr)
 try replace HLA := hI (HLA.out.below hb rr)
 try replace HLB := hI (HLB.out.below hb rr)
 try replace HLC := hI (HLC.out.below hb rr)
 try clear hb
 go_wp2_with fail
 refine (exP12_c _).mono ?_
 rintro e w2 ⟨rfl, hb⟩
 replace HB0 := hI (HB0.out.trans (hb.mono HB0.out.size))
 try replace HT := hI (HT.out.below hb rr)
 try replace HAPA := hI (HAPA.out.below hb rr)
 try replace HPA := hI (HPA.out.below hb rr)
 try replace HLA := hI (HLA.out.below hb rr)
 try replace HLB := hI (HLB.out.below hb rr)
 try replace HLC := hI (HLC.out.below hb rr)
 try clear hb
 go_wp2_with fail
 refine (exA12_c _).mono ?_
 rintro e w3 ⟨rfl, hb⟩
 replace HB0 := hI (HB0.out.trans (hb.mono HB0.out.size))
 try replace HT := hI (HT.out.below hb rr)
 try replace HAPA := hI (HAPA.out.below hb rr)
 try replace HPA := hI (HPA.out.below hb rr)
 try replace HLA := hI (HLA.out.below hb rr)
 try replace HLB := hI (HLB.out.below hb rr)
 try replace HLC := hI (HLC.out.below hb rr)
 try clear hb
 go_wp2_with fail
 have HAPA := hI (built_word w3 [sA, sP, sA] 24 (by simp))
 have hb : Below w3.heap.size w3 (w3.alloc (.cells (wcells [sA, sP, sA]).toArray 24)) := bel
 replace HB0 := hI (HB0.out.trans (hb.mono HB0.out.size))
 try replace HT := hI (HT.out.below hb rr)
 try replace HAPA := hI (HAPA.out.below hb rr)
 try replace HPA := hI (HPA.out.below hb rr)
 try replace HLA := hI (HLA.out.below hb rr)
 try replace HLB := hI (HLB.out.below hb rr)
 try replace HLC := hI (HLC.out.below hb rr)
 try clear hb
 rw [show w3.alloc (.cells #[.int .u32 sA.1, .int .u32 sA.2, .int .u32 sP.1, .int .u32 sP.2, .int .u32 sA.1, .int .u32 sA.2] 24) = w3.alloc (.cells (wcells [sA, sP, sA]).toArray 24) from rfl]
 generalize w3.alloc (.cells (wcells [sA, sP, sA]).toArray 24) = w4 at *
 refine (exP12_c _).mono ?_
 rintro e w5 ⟨rfl, hb⟩
 replace HB0 := hI (HB0.out.trans (hb.mono HB0.out.size))
 try replace HT := hI (HT.out.below hb rr)
 try replace HAPA := hI (HAPA.out.below hb rr)
 try replace HPA := hI (HPA.out.below hb rr)
 try replace HLA := hI (HLA.out.below hb rr)
 try replace HLB := hI (HLB.out.below hb rr)
 try replace HLC := hI (HLC.out.below hb rr)
 try clear hb
 go_wp2_with fail
 refine (exA12_c _).mono ?_
 rintro e w6 ⟨rfl, hb⟩
 replace HB0 := hI (HB0.out.trans (hb.mono HB0.out.size))
 try replace HT := hI (HT.out.below hb rr)
 try replace HAPA := hI (HAPA.out.below hb rr)
 try replace HPA := hI (HPA.out.below hb rr)
 try replace HLA := hI (HLA.out.below hb rr)
 try replace HLB := hI (HLB.out.below hb rr)
 try replace HLC := hI (HLC.out.below hb rr)
 try clear hb
 go_wp2_with fail
 have HPA := hI (built_word w6 [sP, sA] 24 (by simp))
 have hb : Below w6.heap.size w6 (w6.alloc (.cells (wcells [sP, sA]).toArray 24)) := bel
 replace HB0 := hI (HB0.out.trans (hb.mono HB0.out.size))
 try replace HT := hI (HT.out.below hb rr)
 try replace HAPA := hI (HAPA.out.below hb rr)
 try replace HPA := hI (HPA.out.below hb rr)
 try replace HLA := hI (HLA.out.below hb rr)
 try replace HLB := hI (HLB.out.below hb rr)
 try replace HLC := hI (HLC.out.below hb rr)
 try clear hb
 rw [show w6.alloc (.cells #[.int .u32 sP.1, .int .u32 sP.2, .int .u32 sA.1, .int .u32 sA.2] 24) = w6.alloc (.cells (wcells [sP, sA]).toArray 24) from rfl]
 generalize w6.alloc (.cells (wcells [sP, sA]).toArray 24) = w7 at *
 obtain ⟨k3, e3⟩ : ∃ k, k = w3.heap.size := ⟨_, rfl⟩
 obtain ⟨k6, e6⟩ : ∃ k, k = w6.heap.size := ⟨_, rfl⟩
 rw [← e3, ← e6]
 rw [← e3] at HAPA
 rw [← e6] at HPA
 clear e3 e6
 go_wp2_with fail
 refine (exF12_c _).mono ?_
 rintro e w8 ⟨af, rfl, hl_, hb⟩
 replace HB0 := hI (HB0.out.trans (hb.mono HB0.out.size))
 try replace HT := hI (HT.out.below hb rr)
 try replace HAPA := hI (HAPA.out.below hb rr)
 try replace HPA := hI (HPA.out.below hb rr)
 try replace HLA := hI (HLA.out.below hb rr)
 try replace HLB := hI (HLB.out.below hb rr)
 try replace HLC := hI (HLC.out.below hb rr)
 try clear hb
 have HLA := hI hl_; clear hl_
 go_wp2_with fail
 refine (exV12_c _).mono ?_
 rintro e w9 ⟨av, rfl, hl_, hb⟩
 replace HB0 := hI (HB0.out.trans (hb.mono HB0.out.size))
 try replace HT := hI (HT.out.below hb rr)
 try replace HAPA := hI (HAPA.out.below hb rr)
 try replace HPA := hI (HPA.out.below hb rr)
 try replace HLA := hI (HLA.out.below hb rr)
 try replace HLB := hI (HLB.out.below hb rr)
 try replace HLC := hI (HLC.out.below hb rr)
 try clear hb
 have HLB := hI hl_; clear hl_
 go_wp2_with fail
 refine (relation_c fD af vD av _ 3 3 [sA, sP, sA] w9 HLA.out HLB.out HAPA.out HT.out).mono ?_
 rw [exr1]
 rintro e w10 ⟨rfl, hb⟩
 clear HLA HLB
 replace HB0 := hI (HB0.out.trans (hb.mono HB0.out.size))
 try replace HT := hI (HT.out.below hb rr)
 try replace HAPA := hI (HAPA.out.below hb rr)
 try replace HPA := hI (HPA.out.below hb rr)
 try replace HLA := hI (HLA.out.below hb rr)
 try replace HLB := hI (HLB.out.below hb rr)
 try replace HLC := hI (HLC.out.below hb rr)
 try clear hb
 go_wp2_with fail
 refine (exE12_c _).mono ?_
 rintro e w11 ⟨ae, rfl, hl_, hb⟩
 replace HB0 := hI (HB0.out.trans (hb.mono HB0.out.size))
 try replace HT := hI (HT.out.below hb rr)
 try replace HAPA := hI (HAPA.out.below hb rr)
 try replace HPA := hI (HPA.out.below hb rr)
 try replace HLA := hI (HLA.out.below hb rr)
 try replace HLB := hI (HLB.out.below hb rr)
 try replace HLC := hI (HLC.out.below hb rr)
 try clear hb
 have HLA := hI hl_; clear hl_
 go_wp2_with fail
 refine (exV12_c _).mono ?_
 rintro e w12 ⟨av2, rfl, hl_, hb⟩
 replace HB0 := hI (HB0.out.trans (hb.mono HB0.out.size))
 try replace HT := hI (HT.out.below hb rr)
 try replace HAPA := hI (HAPA.out.below hb rr)
 try replace HPA := hI (HPA.out.below hb rr)
 try replace HLA := hI (HLA.out.below hb rr)
 try replace HLB := hI (HLB.out.below hb rr)
 try replace HLC := hI (HLC.out.below hb rr)
 try clear hb
 have HLB := hI hl_; clear hl_
 go_wp2_with fail
 refine (feeds_c eD ae vD av2 _ 2 2 [sP, sA] w12 HLA.out HLB.out HPA.out HT.out).mono ?_
 rw [exr2, exr3]
 rintro e w13 ⟨rfl, hb⟩
 clear HLA HLB
 replace HB0 := hI (HB0.out.trans (hb.mono HB0.out.size))
 try replace HT := hI (HT.out.below hb rr)
 try replace HAPA := hI (HAPA.out.below hb rr)
 try replace HPA := hI (HPA.out.below hb rr)
 try replace HLA := hI (HLA.out.below hb rr)
 try replace HLB := hI (HLB.out.below hb rr)
 try replace HLC := hI (HLC.out.below hb rr)
 try clear hb
 go_wp2_with fail
 refine (exV12_c _).mono ?_
 rintro e w14 ⟨av3, rfl, hl_, hb⟩
 replace HB0 := hI (HB0.out.trans (hb.mono HB0.out.size))
 try replace HT := hI (HT.out.below hb rr)
 try replace HAPA := hI (HAPA.out.below hb rr)
 try replace HPA := hI (HPA.out.below hb rr)
 try replace HLA := hI (HLA.out.below hb rr)
 try replace HLB := hI (HLB.out.below hb rr)
 try replace HLC := hI (HLC.out.below hb rr)
 try clear hb
 have HLA := hI hl_; clear hl_
 go_wp2_with fail
 refine (exF12_c _).mono ?_
 rintro e w15 ⟨af3, rfl, hl_, hb⟩
 replace HB0 := hI (HB0.out.trans (hb.mono HB0.out.size))
 try replace HT := hI (HT.out.below hb rr)
 try replace HAPA := hI (HAPA.out.below hb rr)
 try replace HPA := hI (HPA.out.below hb rr)
 try replace HLA := hI (HLA.out.below hb rr)
 try replace HLB := hI (HLB.out.below hb rr)
 try replace HLC := hI (HLC.out.below hb rr)
 try clear hb
 have HLB := hI hl_; clear hl_
 go_wp2_with (refine build_law2 rfl (.tmp 34) (.tmp 35) rfl ⟨vD, av3⟩ ⟨fD, af3⟩ rfl rfl ?_)
 have HLC := hI (built_laws2 w15 ⟨vD, av3⟩ ⟨fD, af3⟩ 34 HLA.out HLB.out)
 have hb : Below w15.heap.size w15 (w15.alloc (.cells ((LawR.mk vD av3).cells ++ (LawR.mk fD af3).cells).toArray 34)) := bel
 replace HB0 := hI (HB0.out.trans (hb.mono HB0.out.size))
 try replace HT := hI (HT.out.below hb rr)
 try replace HAPA := hI (HAPA.out.below hb rr)
 try replace HPA := hI (HPA.out.below hb rr)
 try replace HLA := hI (HLA.out.below hb rr)
 try replace HLB := hI (HLB.out.below hb rr)
 try replace HLC := hI (HLC.out.below hb rr)
 try clear hb
 have HSZ : Hid ((w15.alloc (.cells ((LawR.mk vD av3).cells ++ (LawR.mk fD af3).cells).toArray 34)).heap.size = w15.heap.size + 1) := by show _ = _; simp
 generalize w15.alloc (.cells ((LawR.mk vD av3).cells ++ (LawR.mk fD af3).cells).toArray 34) = w16 at *
 clear HLA HLB
 have HZ := hI (built_words w16 [(some ⟨k6, 0, none⟩, 2, 2, [sP, sA]), (some ⟨k3, 0, none⟩, 3, 3, [sA, sP, sA])] 32 (by simp) (fun p hp => by
  simp only [List.mem_cons, List.not_mem_nil, or_false] at hp
  rcases hp with rfl | rfl
  ·exact HPA.out
  ·exact HAPA.out))
 have hb : Below w16.heap.size w16 (w16.alloc (.cells (([(some ⟨k6, 0, none⟩, 2, 2, [sP, sA]), (some ⟨k3, 0, none⟩, 3, 3, [sA, sP, sA])] : List Part).map Part.val).toArray 32)) := bel
 replace HB0 := hI (HB0.out.trans (hb.mono HB0.out.size))
 try replace HT := hI (HT.out.below hb rr)
 try replace HAPA := hI (HAPA.out.below hb rr)
 try replace HPA := hI (HPA.out.below hb rr)
 try replace HLA := hI (HLA.out.below hb rr)
 try replace HLB := hI (HLB.out.below hb rr)
 try replace HLC := hI (HLC.out.below hb rr)
 try clear hb
 rw [show w16.alloc (.cells #[.slice (some ⟨k6, 0, none⟩) 2 2, .slice (some ⟨k3, 0, none⟩) 3 3] 32) = w16.alloc (.cells (([(some ⟨k6, 0, none⟩, 2, 2, [sP, sA]), (some ⟨k3, 0, none⟩, 3, 3, [sA, sP, sA])] : List Part).map Part.val).toArray 32) from rfl]
 generalize w16.alloc (.cells (([(some ⟨k6, 0, none⟩, 2, 2, [sP, sA]), (some ⟨k3, 0, none⟩, 3, 3, [sA, sP, sA])] : List Part).map Part.val).toArray 32) = w17 at *
 rw [HSZ.out] at HZ
 clear HSZ
 refine (matters_c _ 2 2 [⟨vD, av3⟩, ⟨fD, af3⟩] 0 _ 2 2 [[sP, sA], [sA, sP, sA]] w17 HLC.out HZ.out HT.out).mono ?_
 rw [show matM (lawsD [⟨vD, av3⟩, ⟨fD, af3⟩]) 0 [[sP, sA], [sA, sP, sA]] = (1, true, 0) from exr4]
 rintro e w18 ⟨rfl, hb⟩
 clear HLC HZ HPA
 replace HB0 := hI (HB0.out.trans (hb.mono HB0.out.size))
 try replace HT := hI (HT.out.below hb rr)
 try replace HAPA := hI (HAPA.out.below hb rr)
 try replace HPA := hI (HPA.out.below hb rr)
 try replace HLA := hI (HLA.out.below hb rr)
 try replace HLB := hI (HLB.out.below hb rr)
 try replace HLC := hI (HLC.out.below hb rr)
 try clear hb
 go_wp2_with fail
 refine (exV12_c _).mono ?_
 rintro e w19 ⟨av4, rfl, hl_, hb⟩
 replace HB0 := hI (HB0.out.trans (hb.mono HB0.out.size))
 try replace HT := hI (HT.out.below hb rr)
 try replace HAPA := hI (HAPA.out.below hb rr)
 try replace HPA := hI (HPA.out.below hb rr)
 try replace HLA := hI (HLA.out.below hb rr)
 try replace HLB := hI (HLB.out.below hb rr)
 try replace HLC := hI (HLC.out.below hb rr)
 try clear hb
 have HLA := hI hl_; clear hl_
 go_wp2_with fail
 refine (exF12_c _).mono ?_
 rintro e w20 ⟨af4, rfl, hl_, hb⟩
 replace HB0 := hI (HB0.out.trans (hb.mono HB0.out.size))
 try replace HT := hI (HT.out.below hb rr)
 try replace HAPA := hI (HAPA.out.below hb rr)
 try replace HPA := hI (HPA.out.below hb rr)
 try replace HLA := hI (HLA.out.below hb rr)
 try replace HLB := hI (HLB.out.below hb rr)
 try replace HLC := hI (HLC.out.below hb rr)
 try clear hb
 have HLB := hI hl_; clear hl_
 go_wp2_with (refine build_law2 rfl (.tmp 45) (.tmp 46) rfl ⟨vD, av4⟩ ⟨fD, af4⟩ rfl rfl ?_)
 have HLC := hI (built_laws2 w20 ⟨vD, av4⟩ ⟨fD, af4⟩ 34 HLA.out HLB.out)
 have hb : Below w20.heap.size w20 (w20.alloc (.cells ((LawR.mk vD av4).cells ++ (LawR.mk fD af4).cells).toArray 34)) := bel
 replace HB0 := hI (HB0.out.trans (hb.mono HB0.out.size))
 try replace HT := hI (HT.out.below hb rr)
 try replace HAPA := hI (HAPA.out.below hb rr)
 try replace HPA := hI (HPA.out.below hb rr)
 try replace HLA := hI (HLA.out.below hb rr)
 try replace HLB := hI (HLB.out.below hb rr)
 try replace HLC := hI (HLC.out.below hb rr)
 try clear hb
 have HSZ : Hid ((w20.alloc (.cells ((LawR.mk vD av4).cells ++ (LawR.mk fD af4).cells).toArray 34)).heap.size = w20.heap.size + 1) := by show _ = _; simp
 generalize w20.alloc (.cells ((LawR.mk vD av4).cells ++ (LawR.mk fD af4).cells).toArray 34) = w21 at *
 clear HLA HLB
 have HZ := hI (built_words w21 [(some ⟨k3, 0, none⟩, 3, 3, [sA, sP, sA])] 32 (by simp) (fun p hp => by
  obtain rfl : p = (some ⟨k3, 0, none⟩, 3, 3, [sA, sP, sA]) := by simpa using hp
  exact HAPA.out))
 have hb : Below w21.heap.size w21 (w21.alloc (.cells (([(some ⟨k3, 0, none⟩, 3, 3, [sA, sP, sA])] : List Part).map Part.val).toArray 32)) := bel
 replace HB0 := hI (HB0.out.trans (hb.mono HB0.out.size))
 try replace HT := hI (HT.out.below hb rr)
 try replace HAPA := hI (HAPA.out.below hb rr)
 try replace HPA := hI (HPA.out.below hb rr)
 try replace HLA := hI (HLA.out.below hb rr)
 try replace HLB := hI (HLB.out.below hb rr)
 try replace HLC := hI (HLC.out.below hb rr)
 try clear hb
 rw [show w21.alloc (.cells #[.slice (some ⟨k3, 0, none⟩) 3 3] 32) = w21.alloc (.cells (([(some ⟨k3, 0, none⟩, 3, 3, [sA, sP, sA])] : List Part).map Part.val).toArray 32) from rfl]
 generalize w21.alloc (.cells (([(some ⟨k3, 0, none⟩, 3, 3, [sA, sP, sA])] : List Part).map Part.val).toArray 32) = w22 at *
 rw [HSZ.out] at HZ
 clear HSZ
 refine (blocks_c _ 2 2 [⟨vD, av4⟩, ⟨fD, af4⟩] _ 1 1 [[sA, sP, sA]] w22 HLC.out HZ.out HT.out).mono ?_
 rw [show blocksM (lawsD [⟨vD, av4⟩, ⟨fD, af4⟩]) [[sA, sP, sA]] = (0, [0, 1]) from exr5]
 rintro e w23 ⟨A9, n9, c9, rfl, hi, hb⟩
 clear HLC HZ
 replace HB0 := hI (HB0.out.trans (hb.mono HB0.out.size))
 try replace HT := hI (HT.out.below hb rr)
 try replace HAPA := hI (HAPA.out.below hb rr)
 try replace HPA := hI (HPA.out.below hb rr)
 try replace HLA := hI (HLA.out.below hb rr)
 try replace HLB := hI (HLB.out.below hb rr)
 try replace HLC := hI (HLC.out.below hb rr)
 try clear hb
 obtain rfl : n9 = 2 := hi.len.symm
 obtain ⟨b, off, x, rfl, hbl, hc0, hx0⟩ := hi.at_ (k := 0) (by omega)
 obtain ⟨b', off', y, he, _, hc1, hx1⟩ := hi.at_ (k := 1) (by omega)
 obtain ⟨rfl, rfl⟩ : b = b' ∧ off = off' := by simpa using he
 obtain rfl : 0 = x := by simpa using hx0
 obtain rfl : 1 = y := by simpa using hx1
 clear hi he hx0 hx1
 have hc0' : w23.cell? ⟨b, off, none⟩ = some (.int .i64 0) := hc0
 have hcm := HT
 go_wp2
 go_ret
 exact ⟨rfl, HB0.out⟩
end Go.Proofs.YtcpcojgmmpnkoaaGreatDoor

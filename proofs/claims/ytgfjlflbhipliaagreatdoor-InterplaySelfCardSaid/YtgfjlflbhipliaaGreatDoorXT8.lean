/-
  ablautlaw12.InterplaySelf is true.
-/
import Derived.Test.YtgfjlflbhipliaaGreatDoorG45
set_option linter.unusedVariables false
set_option linter.unusedSimpArgs false
set_option maxRecDepth 100000
set_option maxHeartbeats 4000000
namespace Go.Proofs.YtgfjlflbhipliaaGreatDoor
open Go.RowKit Go.Shelf
structure BoxSt (w : World) (bA : Nat) (la : LawD) (aa : LawA) (W : World) : Prop where
 b : Below w.heap.size w W
 hA : W.heap[bA]? = some (.cells (lawCs la aa) 43 (0, 0))
theorem BoxSt.below {w W W' : World} {bA : Nat} {la : LawD} {aa : LawA} (h : BoxSt w bA la aa W) (hb : Below W.heap.size W W') : BoxSt w bA la aa W' :=
 ⟨h.b.trans (hb.mono h.b.size), (hb.block _ (lt_of_block h.hA)).trans h.hA⟩
theorem self_c (la : LawD) (aa : LawA) (A : Option Addr) (n c : Nat) (ws : List Snd) (w : World) (hla : LawAt w la aa) (hw : IsWord w A n c ws) (hT : TabOK w) :
  Calls Tryz.prog 8 #[lawV la aa, .slice A n c] w (RetTrue w) := by
 have HLA := hI hla; clear hla
 have HW := hI hw; clear hw
 have HT := hI hT; clear hT
 obtain ⟨W1, hW1, hr1, hl1, hB1, hz1⟩ := law_box w la aa
 have HS1 : Hid (BoxSt w w.heap.size la aa W1) := ⟨hB1, hr1⟩
 clear hr1 hB1
 go_enter Tryz.func8, Tryz.ntmps8
 go_wp2_with (refine load_law rfl (.tmp 2) rfl w.heap.size la aa rfl HS1.out.hA ?_)
 clear hW1
 refine (relation_c la aa la aa A n c ws W1 (HLA.out.below HS1.out.b rr) (HLA.out.below HS1.out.b rr) (HW.out.below HS1.out.b rr) (HT.out.below HS1.out.b rr)).mono ?_
 rintro e w3 ⟨rfl, hb⟩
 have HS3 := hI (HS1.out.below hb); clear hb HS1
 rcases rel_cases la la ws with ⟨er, her, h1, _⟩ | ⟨_, _, _, _, h1, _⟩
 ·rw [h1]
  have h2 : (er != 0) = true := by simpa using her
  clear h1 her
  go_wp2_with fail
  refine (works12_c _ (HT.out.below HS3.out.b rr)).mono ?_
  rintro e w4 ⟨rfl, hbw⟩
  go_wp2
  go_ret
  exact ⟨rfl, Below.trans HS3.out.b (hbw.mono (Below.size HS3.out.b))⟩
 ·have HR := hI h1
  have HC := hI (comB_good h1)
  have HF := hI (fedB_good h1)
  rw [h1]
  clear h1
  obtain ⟨c1, c2, hcc, hn⟩ := relN_self la ws
  have hfc : fedC la la ws = false := by
   have h3 := relN_self la ws
   unfold fedC
   by_cases h4 : ws = (applyM la ws).2
   ·have h5 : (applyM la ws).2 = (applyM la (applyM la ws).2).2 := congrArg (fun x => (applyM la x).2) h4
    rw [decide_eq_true h5]; simp
   ·rw [decide_eq_false h4]; rfl
  have hob : orderedB la la ws = false := by unfold orderedB; simp
  rw [hn]
  clear hn
  have HCC := hI hcc; clear hcc
  go_wp2_with (refine load_law rfl (.tmp 2) rfl w.heap.size la aa rfl HS3.out.hA ?_)
  refine (commute_c la aa la aa A n c ws w3 (HLA.out.below HS3.out.b rr) (HLA.out.below HS3.out.b rr) (HW.out.below HS3.out.b rr) (HT.out.below HS3.out.b rr)).mono ?_
  rw [HC.out, hob, HR.out]
  rintro e w4 ⟨rfl, hb⟩
  have HS4 := hI (HS3.out.below hb); clear hb HS3 HC hob
  go_wp2_with (refine load_law rfl (.tmp 2) rfl w.heap.size la aa rfl HS4.out.hA ?_)
  refine (feeds_c la aa la aa A n c ws w4 (HLA.out.below HS4.out.b rr) (HLA.out.below HS4.out.b rr) (HW.out.below HS4.out.b rr) (HT.out.below HS4.out.b rr)).mono ?_
  rw [HF.out, hfc, HR.out]
  rintro e w5 ⟨rfl, hb⟩
  have HS5 := hI (HS4.out.below hb); clear hb HS4 HF hfc HR
  have hbit : (bits .and .i64 (bitsR c1 c2 c1 c2 true) 21 == 0) = true := by
   have h := HCC.out
   cases c1 <;> cases c2 <;> first | rfl | (exact absurd (h rfl) (by decide))
  go_wp2_with fail
  refine (works12_c _ (HT.out.below HS5.out.b rr)).mono ?_
  rintro e w6 ⟨rfl, hbw⟩
  go_wp2
  go_ret
  exact ⟨rfl, Below.trans HS5.out.b (hbw.mono (Below.size HS5.out.b))⟩
end Go.Proofs.YtgfjlflbhipliaaGreatDoor

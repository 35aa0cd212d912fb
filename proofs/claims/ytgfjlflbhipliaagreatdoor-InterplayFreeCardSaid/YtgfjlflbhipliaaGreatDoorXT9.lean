/-
  ablautlaw12.InterplayFree is true.
-/
import Derived.Test.YtgfjlflbhipliaaGreatDoorG45
set_option linter.unusedVariables false
set_option linter.unusedSimpArgs false
set_option maxRecDepth 100000
set_option maxHeartbeats 4000000
namespace Go.Proofs.YtgfjlflbhipliaaGreatDoor
open Go.RowKit Go.Shelf
theorem free_c (la : LawD) (aa : LawA) (lb : LawD) (ab : LawA) (A : Option Addr) (n c : Nat) (ws : List Snd) (w : World) (hla : LawAt w la aa) (hlb : LawAt w lb ab) (hw : IsWord w A n c ws) (hT : TabOK w) :
  Calls Tryz.prog 9 #[lawV la aa, lawV lb ab, .slice A n c] w (RetTrue w) := by
 have HLA := hI hla; clear hla
 have HLB := hI hlb; clear hlb
 have HW := hI hw; clear hw
 have HT := hI hT; clear hT
 obtain ⟨W1, hW1, hr1, hl1, hB1, hz1⟩ := law_box w la aa
 obtain ⟨W2, hW2, hr2, hl2, hB2, hz2⟩ := law_box W1 lb ab
 have HS2 : Hid (RelSt w w.heap.size W1.heap.size la aa lb ab W2) := ⟨hB1.trans (hB2.mono hB1.size), (hB2.block _ hl1).trans hr1, hr2⟩
 clear hr1 hr2 hB1 hB2
 go_enter Tryz.func9, Tryz.ntmps9
 go_wp2_with (first | (refine load_law rfl (.tmp 3) rfl w.heap.size la aa rfl HS2.out.hA ?_) | (refine load_law rfl (.tmp 4) rfl W1.heap.size lb ab rfl HS2.out.hB ?_))
 clear hW1 hW2
 refine (relation_c la aa lb ab A n c ws W2 (HLA.out.below HS2.out.b rr) (HLB.out.below HS2.out.b rr) (HW.out.below HS2.out.b rr) (HT.out.below HS2.out.b rr)).mono ?_
 rintro e w3 ⟨rfl, hb⟩
 have HS3 := hI (HS2.out.below hb); clear hb HS2
 rcases rel_cases la lb ws with ⟨er, her, h1, _⟩ | ⟨_, _, _, hf, h1, _⟩
 ·rw [h1]
  have h2 : (er != 0) = true := by simpa using her
  clear h1 her
  go_wp2_with fail
  refine (works12_c _ (HT.out.below HS3.out.b rr)).mono ?_
  rintro e w5 ⟨rfl, hbw⟩
  go_wp2
  go_ret
  exact ⟨rfl, Below.trans HS3.out.b (hbw.mono (Below.size HS3.out.b))⟩
 ·rw [h1]
  clear h1
  have HF := hI hf; clear hf
  obtain ⟨m, hm⟩ : ∃ m, m = relN la lb ws := ⟨_, rfl⟩
  rw [← hm]
  have HM := hI hm; clear hm
  go_wp2_with (refine load_law rfl (.tmp 4) rfl W1.heap.size lb ab rfl HS3.out.hB ?_)
  refine (apply_c lb ab A n c ws w3 (HLB.out.below HS3.out.b rr) (HW.out.below HS3.out.b rr) (HT.out.below HS3.out.b rr)).mono ?_
  rintro e w4 ⟨A4, n4, c4, rfl, hw4, hb, _⟩
  rw [HF.out.2.1]
  have HS4 := hI (HS3.out.below hb); clear hb HS3
  have HV := hI hw4; clear hw4
  go_wp2_with (refine load_law rfl (.tmp 3) rfl w.heap.size la aa rfl HS4.out.hA ?_)
  refine (changes_c la aa A n c ws w4 (HLA.out.below HS4.out.b rr) (HW.out.below HS4.out.b rr) (HT.out.below HS4.out.b rr)).mono ?_
  rintro e w5 ⟨rfl, hb⟩
  rw [HF.out.1]
  have HS5 := hI (HS4.out.below hb)
  have HV5 := hI (HV.out.below hb rr); clear hb HS4 HV
  go_wp2_with (refine load_law rfl (.tmp 3) rfl w.heap.size la aa rfl HS5.out.hA ?_)
  refine (changes_c la aa A4 n4 c4 _ w5 (HLA.out.below HS5.out.b rr) HV5.out (HT.out.below HS5.out.b rr)).mono ?_
  rintro e w6 ⟨rfl, hb⟩
  rw [HF.out.2.2.2]
  have HS6 := hI (HS5.out.below hb); clear hb HS5 HV5
  obtain ⟨d1, hd1⟩ : ∃ d, d = changesM la ws := ⟨_, rfl⟩
  obtain ⟨d2, hd2⟩ : ∃ d, d = changesM la (applyM lb ws).2 := ⟨_, rfl⟩
  rw [← hd1, ← hd2]
  cases d1
  ·cases d2
   ·have hz : m = 0 := by
     rw [HM.out]
     refine relN_free ?_ ?_
     ·have h := hd1.symm
      unfold changesM at h
      rw [HF.out.1] at h
      simpa using h
     ·have h := hd2.symm
      unfold changesM at h
      rw [HF.out.2.2.2] at h
      simpa using h
    clear hd1 hd2 HM
    subst hz
    go_wp2_with fail
    refine (works12_c _ (HT.out.below HS6.out.b rr)).mono ?_
    rintro e w7 ⟨rfl, hbw⟩
    go_wp2
    go_ret
    exact ⟨rfl, Below.trans HS6.out.b (hbw.mono (Below.size HS6.out.b))⟩
   ·clear hd1 hd2 HM
    go_wp2_with fail
    refine (works12_c _ (HT.out.below HS6.out.b rr)).mono ?_
    rintro e w7 ⟨rfl, hbw⟩
    go_wp2
    go_ret
    exact ⟨rfl, Below.trans HS6.out.b (hbw.mono (Below.size HS6.out.b))⟩
  ·clear hd1 hd2 HM
   go_wp2_with fail
   refine (works12_c _ (HT.out.below HS6.out.b rr)).mono ?_
   rintro e w7 ⟨rfl, hbw⟩
   go_wp2
   go_ret
   exact ⟨rfl, Below.trans HS6.out.b (hbw.mono (Below.size HS6.out.b))⟩
end Go.Proofs.YtgfjlflbhipliaaGreatDoor

/-
  ablautref10: Words.
-/
import Derived.Test.YtfgilinjaldhhaaGreatDoorG28
set_option linter.unusedVariables false
set_option linter.unusedSimpArgs false
set_option maxRecDepth 100000
set_option maxHeartbeats 4000000
namespace Go.Proofs.YtfgilinjaldhhaaGreatDoor
open Go.RowKit Go.Shelf
def wordsE (wss : List (List Snd)) : Int := if 256 < wss.length then 12 else firstE wss
theorem chk_wordsE (ls : List LawD) (wss : List (List Snd)) : chkM ls wss = if lawsE ls ≠ 0 then lawsE ls else wordsE wss := rfl
theorem r10Words_c (A : Option Addr) (n c : Nat) (wss : List (List Snd)) (w : World) (hw : IsWords w A n c wss) (hu : ∀ x ∈ wss, WordU x) :
  Calls Tryz.prog 61 #[.slice A n c] w fun e w' => e = .returned (.int .i64 (wordsE wss)) ∧ Below w.heap.size w w' := by
 have hm := hw.max
 have HL : Hid (wss.length = n) := hw.len
 have HW := hI hw; clear hw
 have HU := hI hu; clear hu
 go_enter Tryz.func61, Tryz.ntmps61
 by_cases h256 : 256 < n
 ·have hr : wordsE wss = 12 := by unfold wordsE; rw [if_pos (by rw [HL.out]; exact h256)]
  have HR := hI hr; clear hr
  go_wp2
  go_ret
  exact ⟨by rw [HR.out]; rfl, Below.refl _ _⟩
 ·have hr : wordsE wss = firstE wss := by unfold wordsE; rw [if_neg (by rw [HL.out]; exact h256)]
  have HR := hI hr; clear hr
  go_wp2_with fail
  go_loopw [3] (fun i wr => ∃ k : Nat, k ≤ n ∧ i = .int .i64 k ∧ Hid ((wss.take k).all (fun x => wcheck x == 0) = true) ∧ Below w.heap.size w wr) (fun i _ => n - (intOf i).toNat)
  case atStart => exact ⟨0, Nat.zero_le _, rfl, rfl, Below.refl _ _⟩
  case round =>
   obtain ⟨k, hk, rfl, hall, hB⟩ := hrel
   have hBs := hB.size
   by_cases hlt : k < n
   ·obtain ⟨b, off, A', n', c', x, rfl, hbl, hcell, hxk, hwx⟩ := (HW.out.below hB rr).at_ hlt
    have hlt' : (k : Int) < (n : Int) := by omega
    have HXU : Hid (WordU x) := HU.out x (List.mem_of_getElem? hxk)
    have HXK := hI hxk
    have HS := hI (take_snoc' wss k x hxk)
    have HWX := hI hwx; clear hwx hxk
    go_wp2_with fail
    refine (r2Check_c A' n' c' x wr HWX.out HXU.out).mono ?_
    rintro e w5 ⟨rfl, hb5⟩
    have hB5 := hB.trans (hb5.mono hBs)
    clear hb5 hcell
    by_cases hv : wcheck x = 0
    ·have hv' : (wcheck x != 0) = false := by simpa using hv
     have HG : Hid ((wss.take (k + 1)).all (fun x => wcheck x == 0) = true) := by show _ = _; rw [HS.out, List.all_append, hall.out]; simp [hv]
     clear hv
     go_wp2
     go_roundw
     case rel => exact ⟨k + 1, by omega, by go_num, HG, hB5⟩
     case measure => simp [intOf]; omega
    ·have hv' : (wcheck x != 0) = true := by simpa using hv
     have hf : wordsE wss = wcheck x := by rw [HR.out]; exact firstE_snoc HXK.out hall.out hv
     have HF := hI hf; clear hf hv
     go_wp2
     go_ret
     exact ⟨by rw [HF.out]; rfl, hB5⟩
   ·obtain rfl : k = n := by omega
    have hf : wordsE wss = 0 := by
     have := hall.out
     rw [List.take_of_length_le (by rw [HL.out]; exact rr)] at this
     rw [HR.out]; exact firstE_none this
    have HF := hI hf; clear hf
    go_wp2
    go_ret
    exact ⟨by rw [HF.out]; rfl, hB⟩
end Go.Proofs.YtfgilinjaldhhaaGreatDoor

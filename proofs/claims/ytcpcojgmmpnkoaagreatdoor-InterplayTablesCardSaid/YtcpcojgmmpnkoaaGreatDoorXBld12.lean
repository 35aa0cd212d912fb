/-
  interplay.Bleeds.
-/
import Derived.Test.YtcpcojgmmpnkoaaGreatDoorG45
set_option linter.unusedVariables false
set_option linter.unusedSimpArgs false
set_option maxRecDepth 100000
set_option maxHeartbeats 4000000
namespace Go.Proofs.YtcpcojgmmpnkoaaGreatDoor
open Go.RowKit Go.Shelf
def bleC (a b : LawD) (ws : List Snd) : Bool := !decide (ws = (applyM b ws).2) && decide ((applyM a ws).2 = (applyM b (applyM a ws).2).2)
def bleB (a b : LawD) (ws : List Snd) : Bool := (relM a b ws).2 == 0 && bleC a b ws
theorem bleB_bad {a b : LawD} {ws : List Snd} {er : Int} (h : relM a b ws = (0, er)) (he : er ≠ 0) : bleB a b ws = false := by unfold bleB; rw [h]; simp [he]
theorem bleB_good {a b : LawD} {ws : List Snd} (h : relM a b ws = (relN a b ws, 0)) : bleB a b ws = bleC a b ws := by unfold bleB; rw [h]; simp
theorem bleeds_c (la : LawD) (aa : LawA) (lb : LawD) (ab : LawA) (A : Option Addr) (n c : Nat) (ws : List Snd) (w : World) (hla : LawAt w la aa) (hlb : LawAt w lb ab) (hw : IsWord w A n c ws) (hT : TabOK w) :
  Calls Tryz.prog 33 #[lawV la aa, lawV lb ab, .slice A n c] w fun e w' => e = .returned (.tuple #[.bool (bleB la lb ws), .int .i64 (relM la lb ws).2]) ∧ Below w.heap.size w w' := by
 have HLA := hI hla; clear hla
 have HLB := hI hlb; clear hlb
 have HW := hI hw; clear hw
 have HT := hI hT; clear hT
 obtain ⟨W1, hW1, hr1, hl1, hB1, hz1⟩ := law_box w la aa
 obtain ⟨W2, hW2, hr2, hl2, hB2, hz2⟩ := law_box W1 lb ab
 have HS2 : Hid (RelSt w w.heap.size W1.heap.size la aa lb ab W2) := ⟨hB1.trans (hB2.mono hB1.size), (hB2.block _ hl1).trans hr1, hr2⟩
 clear hr1 hr2 hB1 hB2
 go_enter Tryz.func33, Tryz.ntmps33
 go_wp2_with (first | (refine load_law rfl (.tmp 3) rfl w.heap.size la aa rfl HS2.out.hA ?_) | (refine load_law rfl (.tmp 4) rfl W1.heap.size lb ab rfl HS2.out.hB ?_))
 refine (relation_c la aa lb ab A n c ws W2 (HLA.out.below HS2.out.b rr) (HLB.out.below HS2.out.b rr) (HW.out.below HS2.out.b rr) (HT.out.below HS2.out.b rr)).mono ?_
 rintro e w3 ⟨rfl, hb⟩
 have HB3 := hI (HS2.out.b.trans (hb.mono HS2.out.b.size)); clear hb hW1 hW2 HS2
 rcases rel_cases la lb ws with ⟨er, her, h1, _⟩ | ⟨_, _, _, _, h1, _⟩
 ·have HC := hI (bleB_bad h1 her)
  have HR := hI h1
  rw [h1]
  have h2 : (er == 0) = false := by simpa using her
  clear h1 her
  go_wp2
  go_ret2
  exact ⟨by rw [HC.out, HR.out]; rfl, HB3.out⟩
 ·have HC := hI (bleB_good h1)
  have HR := hI h1
  rw [h1]
  clear h1
  rw [show relN la lb ws = bitsR _ _ _ _ _ from rfl]
  unfold bleC at HC
  generalize decide (ws = (applyM lb ws).2) = c1 at *
  generalize decide ((applyM la ws).2 = (applyM lb (applyM la ws).2).2) = c2 at *
  generalize decide (ws = (applyM la ws).2) = c3 at *
  generalize decide ((applyM lb ws).2 = (applyM la (applyM lb ws).2).2) = c4 at *
  generalize decide ((applyM lb (applyM la ws).2).2 = (applyM la (applyM lb ws).2).2) = o at *
  go_wp2
  go_ret2
  refine ⟨?_, HB3.out⟩
  rw [HC.out, HR.out]
  clear HC HR HB3
  cases c1 <;> cases c2 <;> cases c3 <;> cases c4 <;> cases o <;> rfl
end Go.Proofs.YtcpcojgmmpnkoaaGreatDoor

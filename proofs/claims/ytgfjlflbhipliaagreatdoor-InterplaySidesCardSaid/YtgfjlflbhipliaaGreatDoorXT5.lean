/-
  ablautlaw12.InterplaySides is true.
-/
import Derived.Test.YtgfjlflbhipliaaGreatDoorG45
set_option linter.unusedVariables false
set_option linter.unusedSimpArgs false
set_option maxRecDepth 100000
set_option maxHeartbeats 4000000
namespace Go.Proofs.YtgfjlflbhipliaaGreatDoor
open Go.RowKit Go.Shelf
def SideP (n1 n2 : Int) : Prop := ∃ c1 c2 c3 c4 o : Bool, n1 = bitsR c1 c2 c3 c4 o ∧ n2 = bitsR c3 c4 c1 c2 o
theorem side_of (a b : LawD) (ws : List Snd) : ∃ n1 n2 er, relM a b ws = (n1, er) ∧ relM b a ws = (n2, er) ∧ SideP n1 n2 := by
 rcases rel_cases a b ws with ⟨er, _, h1, h2⟩ | ⟨_, _, _, _, h1, h2⟩
 ·exact ⟨0, 0, er, h1, h2, true, true, true, true, true, rfl, rfl⟩
 ·obtain ⟨c1, c2, c3, c4, o, e1, e2⟩ := relN_swap a b ws
  exact ⟨_, _, 0, h1, h2, c1, c2, c3, c4, o, e1, e2⟩
theorem sides_c (la : LawD) (aa : LawA) (lb : LawD) (ab : LawA) (A : Option Addr) (n c : Nat) (ws : List Snd) (w : World) (hla : LawAt w la aa) (hlb : LawAt w lb ab) (hw : IsWord w A n c ws) (hT : TabOK w) :
  Calls Tryz.prog 5 #[lawV la aa, lawV lb ab, .slice A n c] w (RetTrue w) := by
 have HLA := hI hla; clear hla
 have HLB := hI hlb; clear hlb
 have HW := hI hw; clear hw
 have HT := hI hT; clear hT
 obtain ⟨W1, hW1, hr1, hl1, hB1, hz1⟩ := law_box w la aa
 obtain ⟨W2, hW2, hr2, hl2, hB2, hz2⟩ := law_box W1 lb ab
 have HS2 : Hid (RelSt w w.heap.size W1.heap.size la aa lb ab W2) := ⟨hB1.trans (hB2.mono hB1.size), (hB2.block _ hl1).trans hr1, hr2⟩
 clear hr1 hr2 hB1 hB2
 go_enter Tryz.func5, Tryz.ntmps5
 go_wp2_with (first | (refine load_law rfl (.tmp 3) rfl w.heap.size la aa rfl HS2.out.hA ?_) | (refine load_law rfl (.tmp 4) rfl W1.heap.size lb ab rfl HS2.out.hB ?_))
 clear hW1 hW2
 refine (relation_c la aa lb ab A n c ws W2 (HLA.out.below HS2.out.b rr) (HLB.out.below HS2.out.b rr) (HW.out.below HS2.out.b rr) (HT.out.below HS2.out.b rr)).mono ?_
 rintro e w3 ⟨rfl, hb⟩
 have HS3 := hI (HS2.out.below hb); clear hb HS2
 go_wp2_with (first | (refine load_law rfl (.tmp 4) rfl W1.heap.size lb ab rfl HS3.out.hB ?_) | (refine load_law rfl (.tmp 3) rfl w.heap.size la aa rfl HS3.out.hA ?_))
 refine (relation_c lb ab la aa A n c ws w3 (HLB.out.below HS3.out.b rr) (HLA.out.below HS3.out.b rr) (HW.out.below HS3.out.b rr) (HT.out.below HS3.out.b rr)).mono ?_
 rintro e w4 ⟨rfl, hb⟩
 have HS4 := hI (HS3.out.below hb); clear hb HS3
 obtain ⟨n1, n2, er, h1, h2, h3⟩ := side_of la lb ws
 rw [h1, h2]
 clear h1 h2
 have hlo : ¬ (n1 < 0) := by obtain ⟨c1, c2, c3, c4, o, rfl, _⟩ := h3; cases c1 <;> cases c2 <;> cases c3 <;> cases c4 <;> cases o <;> decide
 have hhi : ¬ (31 < n1) := by obtain ⟨c1, c2, c3, c4, o, rfl, _⟩ := h3; cases c1 <;> cases c2 <;> cases c3 <;> cases c4 <;> cases o <;> decide
 have her : (er != er) = false := by simp
 have hE : (n2 == wrap64 (wrap64 (wrap64 (wrap64 (wrap64 (bits .and .i64 n1 1 * 4) + wrap64 (bits .and .i64 n1 2 * 4)) + bits .and .i64 n1 4 / 4) + bits .and .i64 n1 8 / 4) + bits .and .i64 n1 16)) = true := by obtain ⟨c1, c2, c3, c4, o, rfl, rfl⟩ := h3; cases c1 <;> cases c2 <;> cases c3 <;> cases c4 <;> cases o <;> kernel_rfl
 clear h3
 go_wp2_with fail
 refine (works12_c _ (HT.out.below HS4.out.b rr)).mono ?_
 rintro e w5 ⟨rfl, hbw⟩
 go_wp2
 go_ret
 exact ⟨rfl, Below.trans HS4.out.b (hbw.mono (Below.size HS4.out.b))⟩
end Go.Proofs.YtgfjlflbhipliaaGreatDoor

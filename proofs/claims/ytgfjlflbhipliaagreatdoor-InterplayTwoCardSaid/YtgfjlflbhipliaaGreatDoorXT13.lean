/-
  ablautlaw12.InterplayTwo is true.
-/
import Derived.Test.YtgfjlflbhipliaaGreatDoorG45
import Derived.Test.YtgfjlflbhipliaaGreatDoorXSwp12
import Derived.Test.YtgfjlflbhipliaaGreatDoorG42
set_option linter.unusedVariables false
set_option linter.unusedSimpArgs false
set_option maxRecDepth 100000
set_option maxHeartbeats 4000000
namespace Go.Proofs.YtgfjlflbhipliaaGreatDoor
open Go.RowKit Go.Shelf
theorem two_key (la lb : LawD) (ws : List Snd) : ∃ e cb mb l, comB la lb ws = cb ∧ (relM la lb ws).2 = e ∧ matM [la, lb] 0 [ws] = (0, mb, e) ∧ swapsM [la, lb] [ws] = (e, l) ∧
  ((e ≠ 0 ∧ cb = false ∧ mb = false ∧ l = []) ∨ (e = 0 ∧ ∃ o : Bool, cb = !o ∧ mb = o ∧ l = if o then [0] else [])) := by
 rcases two_cases la lb ws with ⟨er, her, h1, h2, h3⟩ | ⟨h1, h2, h3⟩
 ·exact ⟨er, false, false, [], comB_bad h1 her, by rw [h1], h2, h3, .inl ⟨her, rfl, rfl, rfl⟩⟩
 ·exact ⟨0, _, _, _, comB_good h1, by rw [h1], h2, h3, .inr ⟨rfl, _, rfl, rfl, rfl⟩⟩
theorem two_c (la : LawD) (aa : LawA) (lb : LawD) (ab : LawA) (A : Option Addr) (n c : Nat) (ws : List Snd) (w : World) (hla : LawAt w la aa) (hlb : LawAt w lb ab) (hw : IsWord w A n c ws) (hT : TabOK w) :
  Calls Tryz.prog 13 #[lawV la aa, lawV lb ab, .slice A n c] w (RetTrue w) := by
 have HLA := hI hla; clear hla
 have HLB := hI hlb; clear hlb
 have HW := hI hw; clear hw
 have HT := hI hT; clear hT
 obtain ⟨W1, hW1, hr1, hl1, hB1, hz1⟩ := law_box w la aa
 obtain ⟨W2, hW2, hr2, hl2, hB2, hz2⟩ := law_box W1 lb ab
 have HS : Hid (RelSt w w.heap.size W1.heap.size la aa lb ab W2) := ⟨hB1.trans (hB2.mono hB1.size), (hB2.block _ hl1).trans hr1, hr2⟩
 clear hr1 hr2 hB1 hB2
 obtain ⟨er, cb, mb, l, k1, k2, k3, k4, k5⟩ := two_key la lb ws
 have K1 := hI k1
 have K2 := hI k2
 have K3 := hI k3
 have K4 := hI k4
 have K5 := hI k5
 clear k1 k2 k3 k4 k5
 go_enter Tryz.func13, Tryz.ntmps13
 go_wp2_with (first | (refine load_law rfl (.tmp 3) rfl w.heap.size la aa rfl HS.out.hA ?_) | (refine load_law rfl (.tmp 4) rfl W1.heap.size lb ab rfl HS.out.hB ?_))
 clear hW1 hW2
 refine (commute_c la aa lb ab A n c ws W2 (HLA.out.below HS.out.b rr) (HLB.out.below HS.out.b rr) (HW.out.below HS.out.b rr) (HT.out.below HS.out.b rr)).mono ?_
 rw [K1.out, K2.out]
 rintro e w3 ⟨rfl, hb⟩
 replace HS := hI (HS.out.below hb); clear hb
 go_wp2_with (first | (refine load_law rfl (.tmp 3) rfl w.heap.size la aa rfl HS.out.hA ?_) | (refine load_law rfl (.tmp 4) rfl W1.heap.size lb ab rfl HS.out.hB ?_) | (refine build_law2 rfl (.tmp 22) (.tmp 23) rfl ⟨la, aa⟩ ⟨lb, ab⟩ rfl rfl ?_))
 have HLC := hI (built_laws2 w3 ⟨la, aa⟩ ⟨lb, ab⟩ 43 (HLA.out.below HS.out.b rr) (HLB.out.below HS.out.b rr))
 have hb : Below w3.heap.size w3 (w3.alloc (.cells ((LawR.mk la aa).cells ++ (LawR.mk lb ab).cells).toArray 43)) := bel
 replace HS := hI (HS.out.below hb)
 have HSZ : Hid ((w3.alloc (.cells ((LawR.mk la aa).cells ++ (LawR.mk lb ab).cells).toArray 43)).heap.size = w3.heap.size + 1) := by show _ = _; simp
 clear hb
 generalize w3.alloc (.cells ((LawR.mk la aa).cells ++ (LawR.mk lb ab).cells).toArray 43) = w4 at *
 have HZ := hI (built_words w4 [(A, n, c, ws)] 40 (by simp) (fun p hp => by
  obtain rfl : p = (A, n, c, ws) := by simpa using hp
  exact HW.out.below HS.out.b rr))
 have hb : Below w4.heap.size w4 (w4.alloc (.cells (([(A, n, c, ws)] : List Part).map Part.val).toArray 40)) := bel
 replace HS := hI (HS.out.below hb)
 replace HLC := hI (HLC.out.below hb rr)
 clear hb
 rw [show w4.alloc (.cells #[.slice A n c] 40) = w4.alloc (.cells (([(A, n, c, ws)] : List Part).map Part.val).toArray 40) from rfl]
 rw [HSZ.out] at HZ
 clear HSZ
 generalize w4.alloc (.cells (([(A, n, c, ws)] : List Part).map Part.val).toArray 40) = w5 at *
 refine (matters_c _ 2 2 [⟨la, aa⟩, ⟨lb, ab⟩] 0 _ 1 1 [ws] w5 HLC.out HZ.out (HT.out.below HS.out.b rr)).mono ?_
 rw [show matM (lawsD [⟨la, aa⟩, ⟨lb, ab⟩]) 0 [ws] = (0, mb, er) from K3.out]
 rintro e w6 ⟨rfl, hb⟩
 replace HS := hI (HS.out.below hb); clear hb HLC HZ
 go_wp2_with (first | (refine load_law rfl (.tmp 3) rfl w.heap.size la aa rfl HS.out.hA ?_) | (refine load_law rfl (.tmp 4) rfl W1.heap.size lb ab rfl HS.out.hB ?_) | (refine build_law2 rfl (.tmp 32) (.tmp 33) rfl ⟨la, aa⟩ ⟨lb, ab⟩ rfl rfl ?_))
 have HLC := hI (built_laws2 w6 ⟨la, aa⟩ ⟨lb, ab⟩ 43 (HLA.out.below HS.out.b rr) (HLB.out.below HS.out.b rr))
 have hb : Below w6.heap.size w6 (w6.alloc (.cells ((LawR.mk la aa).cells ++ (LawR.mk lb ab).cells).toArray 43)) := bel
 replace HS := hI (HS.out.below hb)
 have HSZ : Hid ((w6.alloc (.cells ((LawR.mk la aa).cells ++ (LawR.mk lb ab).cells).toArray 43)).heap.size = w6.heap.size + 1) := by show _ = _; simp
 clear hb
 generalize w6.alloc (.cells ((LawR.mk la aa).cells ++ (LawR.mk lb ab).cells).toArray 43) = w7 at *
 have HZ := hI (built_words w7 [(A, n, c, ws)] 40 (by simp) (fun p hp => by
  obtain rfl : p = (A, n, c, ws) := by simpa using hp
  exact HW.out.below HS.out.b rr))
 have hb : Below w7.heap.size w7 (w7.alloc (.cells (([(A, n, c, ws)] : List Part).map Part.val).toArray 40)) := bel
 replace HS := hI (HS.out.below hb)
 replace HLC := hI (HLC.out.below hb rr)
 clear hb
 rw [show w7.alloc (.cells #[.slice A n c] 40) = w7.alloc (.cells (([(A, n, c, ws)] : List Part).map Part.val).toArray 40) from rfl]
 rw [HSZ.out] at HZ
 clear HSZ
 generalize w7.alloc (.cells (([(A, n, c, ws)] : List Part).map Part.val).toArray 40) = w8 at *
 refine (swaps_c _ 2 2 [⟨la, aa⟩, ⟨lb, ab⟩] _ 1 1 [ws] w8 HLC.out HZ.out (HT.out.below HS.out.b rr)).mono ?_
 rw [show swapsM (lawsD [⟨la, aa⟩, ⟨lb, ab⟩]) [ws] = (er, l) from K4.out]
 rintro e w9 ⟨A9, n9, c9, rfl, hi, hb⟩
 replace HS := hI (HS.out.below hb); clear hb HLC HZ
 have hl9 : l.length = n9 := by have h := hi.len; simpa using h
 clear hi
 have g1 : (er != er) = false := by simp
 have g2 : (er == er) = true := by simp
 rcases K5.out with ⟨h0, rfl, rfl, rfl⟩ | ⟨rfl, o, rfl, rfl, rfl⟩
 ·have g3 : (er != 0) = true := by simpa using h0
  obtain rfl : n9 = 0 := by simpa using hl9.symm
  clear h0 hl9 K1 K2 K3 K4 K5
  go_wp2_with fail
  refine (works12_c _ (HT.out.below HS.out.b rr)).mono ?_
  rintro e w10 ⟨rfl, hbw⟩
  go_wp2
  go_ret
  exact ⟨rfl, Below.trans HS.out.b (hbw.mono (Below.size HS.out.b))⟩
 ·clear K1 K2 K3 K4 K5
  cases mb
  ·obtain rfl : n9 = 0 := by simpa using hl9.symm
   clear hl9
   go_wp2_with fail
   refine (works12_c _ (HT.out.below HS.out.b rr)).mono ?_
   rintro e w10 ⟨rfl, hbw⟩
   go_wp2
   go_ret
   exact ⟨rfl, Below.trans HS.out.b (hbw.mono (Below.size HS.out.b))⟩
  ·obtain rfl : n9 = 1 := by simpa using hl9.symm
   clear hl9
   go_wp2_with fail
   refine (works12_c _ (HT.out.below HS.out.b rr)).mono ?_
   rintro e w10 ⟨rfl, hbw⟩
   go_wp2
   go_ret
   exact ⟨rfl, Below.trans HS.out.b (hbw.mono (Below.size HS.out.b))⟩
end Go.Proofs.YtgfjlflbhipliaaGreatDoor

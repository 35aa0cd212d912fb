/-
  ablautlaw12.InterplayRelations is true.
-/
import Derived.Test.YtcpcojgmmpnkoaaGreatDoorG45
import Derived.Test.YtcpcojgmmpnkoaaGreatDoorG47
set_option linter.unusedVariables false
set_option linter.unusedSimpArgs false
set_option maxRecDepth 100000
set_option maxHeartbeats 4000000
namespace Go.Proofs.YtcpcojgmmpnkoaaGreatDoor
open Go.RowKit Go.Shelf
theorem relations_c (la : LawD) (aa : LawA) (lb : LawD) (ab : LawA) (A : Option Addr) (n c : Nat) (ws : List Snd) (w : World) (hla : LawAt w la aa ∧ LawU la) (hlb : LawAt w lb ab ∧ LawU lb) (hw : IsWord w A n c ws ∧ WordU ws) (hT : TabOK w) :
  Calls Tryz.prog 4 #[lawV la aa, lawV lb ab, .slice A n c] w (RetTrue w) := by
 have HLA := hI hla.1
 have HUA := hI hla.2
 have HLB := hI hlb.1
 have HUB := hI hlb.2
 have HW := hI hw.1
 have HWU := hI hw.2
 have HT := hI hT
 clear hla hlb hw hT
 obtain ⟨vE, hvE⟩ : ∃ v, v = (relM la lb ws).2 := ⟨_, rfl⟩
 obtain ⟨v1, hv1⟩ : ∃ v, v = (relM la lb ws).1 := ⟨_, rfl⟩
 obtain ⟨v2, hv2⟩ : ∃ v, v = fedB la lb ws := ⟨_, rfl⟩
 obtain ⟨v3, hv3⟩ : ∃ v, v = bleB la lb ws := ⟨_, rfl⟩
 obtain ⟨v4, hv4⟩ : ∃ v, v = comB la lb ws := ⟨_, rfl⟩
 have HVE := hI hvE; clear hvE
 have HV1 := hI hv1; clear hv1
 have HV2 := hI hv2; clear hv2
 have HV3 := hI hv3; clear hv3
 have HV4 := hI hv4; clear hv4
 obtain ⟨W1, hW1, hr1, hl1, hB1, hz1⟩ := law_box w la aa
 obtain ⟨w2, hW2, hr2, hl2, hB2, hz2⟩ := law_box W1 lb ab
 have HS2 : Hid (RelSt w w.heap.size W1.heap.size la aa lb ab w2) := ⟨hB1.trans (hB2.mono hB1.size), (hB2.block _ hl1).trans hr1, hr2⟩
 clear hr1 hr2 hB1 hB2
 go_enter Tryz.func4, Tryz.ntmps4
 go_wp2_with (first | (refine load_law rfl (.tmp 3) rfl w.heap.size la aa rfl HS2.out.hA ?_) | (refine load_law rfl (.tmp 4) rfl W1.heap.size lb ab rfl HS2.out.hB ?_))
 refine (relation_c la aa lb ab A n c ws w2 (HLA.out.below HS2.out.b rr) (HLB.out.below HS2.out.b rr) (HW.out.below HS2.out.b rr) (HT.out.below HS2.out.b rr)).mono ?_
 rw [← HV1.out, ← HVE.out]
 rintro e w3 ⟨rfl, hb⟩
 have HS3 := hI (HS2.out.below hb); clear hb HS2
 go_wp2_with (first | (refine load_law rfl (.tmp 3) rfl w.heap.size la aa rfl HS3.out.hA ?_) | (refine load_law rfl (.tmp 4) rfl W1.heap.size lb ab rfl HS3.out.hB ?_))
 refine (r12Relation_c la aa lb ab A n c ws w3 (HLA.out.below HS3.out.b rr) (HLB.out.below HS3.out.b rr) (HW.out.below HS3.out.b rr) HUA.out HUB.out HWU.out).mono ?_
 rw [← HV1.out, ← HVE.out]
 rintro e w4 ⟨rfl, hb⟩
 have HS4 := hI (HS3.out.below hb); clear hb HS3
 go_wp2_with (first | (refine load_law rfl (.tmp 3) rfl w.heap.size la aa rfl HS4.out.hA ?_) | (refine load_law rfl (.tmp 4) rfl W1.heap.size lb ab rfl HS4.out.hB ?_))
 refine (feeds_c la aa lb ab A n c ws w4 (HLA.out.below HS4.out.b rr) (HLB.out.below HS4.out.b rr) (HW.out.below HS4.out.b rr) (HT.out.below HS4.out.b rr)).mono ?_
 rw [← HV2.out, ← HVE.out]
 rintro e w5 ⟨rfl, hb⟩
 have HS5 := hI (HS4.out.below hb); clear hb HS4
 go_wp2_with (first | (refine load_law rfl (.tmp 3) rfl w.heap.size la aa rfl HS5.out.hA ?_) | (refine load_law rfl (.tmp 4) rfl W1.heap.size lb ab rfl HS5.out.hB ?_))
 refine (r12Feeds_c la aa lb ab A n c ws w5 (HLA.out.below HS5.out.b rr) (HLB.out.below HS5.out.b rr) (HW.out.below HS5.out.b rr) HUA.out HUB.out HWU.out).mono ?_
 rw [← HV2.out, ← HVE.out]
 rintro e w6 ⟨rfl, hb⟩
 have HS6 := hI (HS5.out.below hb); clear hb HS5
 go_wp2_with (first | (refine load_law rfl (.tmp 3) rfl w.heap.size la aa rfl HS6.out.hA ?_) | (refine load_law rfl (.tmp 4) rfl W1.heap.size lb ab rfl HS6.out.hB ?_))
 refine (bleeds_c la aa lb ab A n c ws w6 (HLA.out.below HS6.out.b rr) (HLB.out.below HS6.out.b rr) (HW.out.below HS6.out.b rr) (HT.out.below HS6.out.b rr)).mono ?_
 rw [← HV3.out, ← HVE.out]
 rintro e w7 ⟨rfl, hb⟩
 have HS7 := hI (HS6.out.below hb); clear hb HS6
 go_wp2_with (first | (refine load_law rfl (.tmp 3) rfl w.heap.size la aa rfl HS7.out.hA ?_) | (refine load_law rfl (.tmp 4) rfl W1.heap.size lb ab rfl HS7.out.hB ?_))
 refine (r12Bleeds_c la aa lb ab A n c ws w7 (HLA.out.below HS7.out.b rr) (HLB.out.below HS7.out.b rr) (HW.out.below HS7.out.b rr) HUA.out HUB.out HWU.out).mono ?_
 rw [← HV3.out, ← HVE.out]
 rintro e w8 ⟨rfl, hb⟩
 have HS8 := hI (HS7.out.below hb); clear hb HS7
 go_wp2_with (first | (refine load_law rfl (.tmp 3) rfl w.heap.size la aa rfl HS8.out.hA ?_) | (refine load_law rfl (.tmp 4) rfl W1.heap.size lb ab rfl HS8.out.hB ?_))
 refine (commute_c la aa lb ab A n c ws w8 (HLA.out.below HS8.out.b rr) (HLB.out.below HS8.out.b rr) (HW.out.below HS8.out.b rr) (HT.out.below HS8.out.b rr)).mono ?_
 rw [← HV4.out, ← HVE.out]
 rintro e w9 ⟨rfl, hb⟩
 have HS9 := hI (HS8.out.below hb); clear hb HS8
 go_wp2_with (first | (refine load_law rfl (.tmp 3) rfl w.heap.size la aa rfl HS9.out.hA ?_) | (refine load_law rfl (.tmp 4) rfl W1.heap.size lb ab rfl HS9.out.hB ?_))
 refine (r12Commute_c la aa lb ab A n c ws w9 (HLA.out.below HS9.out.b rr) (HLB.out.below HS9.out.b rr) (HW.out.below HS9.out.b rr) HUA.out HUB.out HWU.out).mono ?_
 rw [← HV4.out, ← HVE.out]
 rintro e w10 ⟨rfl, hb⟩
 have HS10 := hI (HS9.out.below hb); clear hb HS9
 have hb1 : (v1 == v1) = true := by simp
 have hb2 : (vE == vE) = true := by simp
 have hb3 : (v2 == v2) = true := by simp
 have hb4 : (v3 == v3) = true := by simp
 have hb5 : (v4 == v4) = true := by simp
 go_wp2_with fail
 refine (works12_c _ (HT.out.below HS10.out.b rr)).mono ?_
 rintro e w11 ⟨rfl, hbw⟩
 go_wp2
 go_ret
 exact ⟨rfl, HS10.out.b.trans (hbw.mono HS10.out.b.size)⟩
end Go.Proofs.YtcpcojgmmpnkoaaGreatDoor

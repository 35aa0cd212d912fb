/-
  The examples of chapter 29 hold.
-/
import Derived.Test.YtlgliddhideflaaGreatDoorG66
import Derived.Test.YtlgliddhideflaaGreatDoorG65
set_option linter.all false
set_option maxRecDepth 100000
set_option maxHeartbeats 4000000
namespace Go.Proofs.YtlgliddhideflaaGreatDoor
open Go.RowKit Go.Shelf
def t29 : List (List Frm) := [row29D [], row29D [sP]]
theorem ex29_1 : pStemM t29 0 = (0, [sA]) := by kernel_rfl
theorem ex29_2 : pEndsM t29 0 = (0, [(true, [sP, sA]), (true, [s29B, sA]), (false, []), (true, [sP, sA])]) := by kernel_rfl
theorem ex29_3 : pSameM t29 0 = (0, [0, 1, 2, 0]) := by kernel_rfl
theorem ex29_4 : pGradesM t29 0 (4, 0) = (0, [0, 0, 2, 0]) := by kernel_rfl
theorem ex29_5 : pClassM t29 = (0, [0, 0]) := by kernel_rfl
theorem ex29_6 : pBuildM [[sA, sP]] [[(true, [sA]), (true, []), (false, [])]] = (0, [[(true, [sA, sP, sA]), (true, [sA, sP]), (false, [])]]) := by kernel_rfl
theorem ex29_7 : pDerM [row29D []] [v25] = (0, [[(true, [sA, s29B, sA]), (true, [sA, s29B, sA]), (false, []), (true, [sA, s29B, sA])]]) := by kernel_rfl
theorem IsPar.take {w : World} {A : Option Addr} {n c : Nat} {T : List (List Frm)} (h : IsPar w A n c T) {k : Nat} (hk : k ≤ n) : IsPar w A k c (T.take k) := by
 obtain ⟨rs, h1, h2, h3⟩ := h
 refine ⟨rs.take k, by rw [← h1, List.map_take], ?_, fun r hr => h3 r (List.mem_of_mem_take hr)⟩
 have := h2.take hk
 rw [Nat.mul_one] at this
 rw [List.map_take]; exact this
section
variable {P : Program} {ops : Array Oper} {Q : Exit → Act → World → Prop} {md : Region.Mode} {S : World → Prop}
theorem anyT_tg (i : Nat) {oi : Oper} {v : Value} {fuel : Nat} {listed : Array Bool} {a : Act} {w : World} (hi : ops[i]? = some oi) (hS : S w)
  (h : anyT P md ops Q S fuel (listed.setIfInBounds i true) (a.put oi.dst v) w)
  (hs : Region.noSelect ops = true := by as_aux_lemma => kernel_rfl) (hf : Region.free md ops listed i = true := by as_aux_lemma => kernel_rfl) (hr : (Region.ready md ops listed).contains i = true := by as_aux_lemma => kernel_rfl)
  (hk : waited md ops listed i = true := by as_aux_lemma => kernel_rfl) (hQ : ∀ c a w, Q (.panic c) (a.put oi.dst v) w → Q (.panic c) a w := by exact fun _ _ _ h => h)
  (hy : YieldsIf P ops S oi v a := by exact Or.inl ⟨by as_aux_lemma => kernel_rfl, fun w' hSw => by (try dsimp only at hSw); go_split_ands; go_simp; (try with_reducible rfl)⟩) : anyT P md ops Q S (fuel + 1) listed a w :=
 anyT_take hi hs hf hr hk hQ hy hS h
theorem anyT_st (i : Nat) {o : Oper} {fuel : Nat} {listed : Array Bool} {a : Act} {w : World} (ho : ops[i]? = some o)
  (h : ∀ K' : Act → World → Prop, (∀ a w, (allDone (listed.setIfInBounds i true) = true ∨ S w) ∧ ((allDone (listed.setIfInBounds i true) = true ∨ S w) → anyT P md ops Q S fuel (listed.setIfInBounds i true) a w) → K' a w) →
   if Region.wanted o (yielded ops a.tmps) = true then Oper.wp P o a w K' Q else K' (a.put o.dst undef) w)
  (hr : Region.ready md ops listed = [i] := by as_aux_lemma => kernel_rfl) : anyT P md ops Q S (fuel + 1) listed a w := anyT_step hr ho h
end
theorem works29_c (w : World) (hT : TabOK w) : Calls Tryz.prog 40 #[] w fun e w' => e = .returned (.bool true) ∧ Below w.heap.size w w' := by
 have HT := hI hT; clear hT
 have HB := hI (Below.refl w.heap.size w)
 go_enter Tryz.func40, Tryz.ntmps40
 go_wp2_with fail
 refine (row29_c none 0 0 [] w (Cells.nil _ _) (by decide)).mono ?_
 rintro e w1 ⟨A1, n1, c1, rfl, hf, hb⟩
 replace HB := hI (HB.out.trans (hb.mono HB.out.size))
 replace HT := hI (HT.out.below hb rr)
 try clear hb
 have HR1 := hI hf; clear hf
 go_wp2_with fail
 refine (exP29_c _).mono ?_
 rintro e w2 ⟨rfl, hb⟩
 replace HB := hI (HB.out.trans (hb.mono HB.out.size))
 replace HT := hI (HT.out.below hb rr)
 try replace HR1 := hI (HR1.out.below hb rr)
 try clear hb
 go_wp2_with fail
 have HW1 := hI (built_word w2 [sP] 24 (by simp))
 have hb : Below w2.heap.size w2 (w2.alloc (.cells (wcells [sP]).toArray 24)) := bel
 replace HB := hI (HB.out.trans (hb.mono HB.out.size))
 replace HT := hI (HT.out.below hb rr)
 try replace HR1 := hI (HR1.out.below hb rr)
 try replace HW1 := hI (HW1.out.below hb rr)
 try clear hb
 rw [show w2.alloc (.cells #[.int .u32 sP.1, .int .u32 sP.2] 24) = w2.alloc (.cells (wcells [sP]).toArray 24) from rfl]
 have hsz_ : (w2.alloc (.cells (wcells [sP]).toArray 24)).heap.size = w2.heap.size + 1 := by simp
 have HSZ := hI hsz_; clear hsz_
 generalize w2.alloc (.cells (wcells [sP]).toArray 24) = w3 at *
 refine (row29_c _ 1 1 [sP] w3 HW1.out (by decide)).mono ?_
 rintro e w4 ⟨A2, n2, c2, rfl, hf, hb⟩
 clear HW1
 replace HB := hI (HB.out.trans (hb.mono HB.out.size))
 replace HT := hI (HT.out.below hb rr)
 try replace HR1 := hI (HR1.out.below hb rr)
 try clear hb
 have HR2 := hI hf; clear hf
 go_wp2_with fail
 have HTT := hI (built_par w4 [⟨A1, n1, c1, row29D []⟩, ⟨A2, n2, c2, row29D [sP]⟩] 62 (by simp) (fun r hr => by
  simp only [List.mem_cons, List.not_mem_nil, or_false] at hr
  rcases hr with rfl | rfl
  ·exact HR1.out
  ·exact HR2.out))
 have hb : Below w4.heap.size w4 (w4.alloc (.cells (([⟨A1, n1, c1, row29D []⟩, ⟨A2, n2, c2, row29D [sP]⟩] : List RowR).map RowR.val).toArray 62)) := bel
 clear HR1 HR2
 replace HB := hI (HB.out.trans (hb.mono HB.out.size))
 replace HT := hI (HT.out.below hb rr)
 try replace HTT := hI (HTT.out.below hb rr)
 try clear hb
 rw [show w4.alloc (.cells #[.slice A1 n1 c1, .slice A2 n2 c2] 62) = w4.alloc (.cells (([⟨A1, n1, c1, row29D []⟩, ⟨A2, n2, c2, row29D [sP]⟩] : List RowR).map RowR.val).toArray 62) from rfl]
 generalize w4.alloc (.cells (([⟨A1, n1, c1, row29D []⟩, ⟨A2, n2, c2, row29D [sP]⟩] : List RowR).map RowR.val).toArray 62) = w5 at *
 obtain ⟨bt, ebt⟩ : ∃ bt, bt = w4.heap.size := ⟨_, rfl⟩
 rw [← ebt] at HTT ⊢
 clear ebt
 replace HTT : Hid (IsPar w5 (some ⟨bt, 0, none⟩) 2 2 t29) := HTT.out
 refine (pStem_c _ 2 2 t29 0 w5 HTT.out (by decide)).mono ?_
 rw [ex29_1]
 rintro e w6 ⟨A3, n3, c3, rfl, hw, hb, _⟩
 replace HB := hI (HB.out.trans (hb.mono HB.out.size))
 replace HT := hI (HT.out.below hb rr)
 try replace HTT := hI (HTT.out.below hb rr)
 try clear hb
 have HE1 := hI hw; clear hw
 go_wp2_with fail
 refine (pEndings_c _ 2 2 t29 0 w6 HTT.out (by decide)).mono ?_
 rw [ex29_2]
 rintro e w7 ⟨A4, n4, c4, rfl, hw, hb⟩
 replace HB := hI (HB.out.trans (hb.mono HB.out.size))
 replace HT := hI (HT.out.below hb rr)
 try replace HTT := hI (HTT.out.below hb rr)
 try replace HE1 := hI (HE1.out.below hb rr)
 try clear hb
 have HE2 := hI hw.forms; clear hw
 go_wp2_with fail
 refine (pSame_c _ 2 2 t29 0 w7 HTT.out (by decide)).mono ?_
 rw [ex29_3]
 rintro e w8 ⟨A5, n5, c5, rfl, hw, hb⟩
 replace HB := hI (HB.out.trans (hb.mono HB.out.size))
 replace HT := hI (HT.out.below hb rr)
 try replace HTT := hI (HTT.out.below hb rr)
 try replace HE1 := hI (HE1.out.below hb rr)
 try replace HE2 := hI (HE2.out.below hb rr)
 try clear hb
 have HE3 := hI hw; clear hw
 go_wp2_with fail
 refine (pGrades_c _ 2 2 t29 0 4 0 w8 HTT.out (by decide)).mono ?_
 rw [ex29_4]
 rintro e w9 ⟨A6, n6, c6, rfl, hw, hb⟩
 replace HB := hI (HB.out.trans (hb.mono HB.out.size))
 replace HT := hI (HT.out.below hb rr)
 try replace HTT := hI (HTT.out.below hb rr)
 try replace HE1 := hI (HE1.out.below hb rr)
 try replace HE2 := hI (HE2.out.below hb rr)
 try replace HE3 := hI (HE3.out.below hb rr)
 try clear hb
 have HE4 := hI hw; clear hw
 go_wp2_with fail
 refine (pClasses_c _ 2 2 t29 w9 HTT.out).mono ?_
 rw [ex29_5]
 rintro e w10 ⟨A7, n7, c7, rfl, hw, hb⟩
 replace HB := hI (HB.out.trans (hb.mono HB.out.size))
 replace HT := hI (HT.out.below hb rr)
 try replace HTT := hI (HTT.out.below hb rr)
 try replace HE1 := hI (HE1.out.below hb rr)
 try replace HE2 := hI (HE2.out.below hb rr)
 try replace HE3 := hI (HE3.out.below hb rr)
 try replace HE4 := hI (HE4.out.below hb rr)
 try clear hb
 have HE5 := hI hw; clear hw
 go_wp2_with fail
 refine (exA29_c _).mono ?_
 rintro e w11 ⟨rfl, hb⟩
 replace HB := hI (HB.out.trans (hb.mono HB.out.size))
 replace HT := hI (HT.out.below hb rr)
 try replace HTT := hI (HTT.out.below hb rr)
 try replace HE1 := hI (HE1.out.below hb rr)
 try replace HE2 := hI (HE2.out.below hb rr)
 try replace HE3 := hI (HE3.out.below hb rr)
 try replace HE4 := hI (HE4.out.below hb rr)
 try replace HE5 := hI (HE5.out.below hb rr)
 try clear hb
 go_wp2_with fail
 refine (exP29_c _).mono ?_
 rintro e w12 ⟨rfl, hb⟩
 replace HB := hI (HB.out.trans (hb.mono HB.out.size))
 replace HT := hI (HT.out.below hb rr)
 try replace HTT := hI (HTT.out.below hb rr)
 try replace HE1 := hI (HE1.out.below hb rr)
 try replace HE2 := hI (HE2.out.below hb rr)
 try replace HE3 := hI (HE3.out.below hb rr)
 try replace HE4 := hI (HE4.out.below hb rr)
 try replace HE5 := hI (HE5.out.below hb rr)
 try clear hb
 go_wp2_with fail
 have HW1 := hI (built_word w12 [sA, sP] 24 (by simp))
 have hb : Below w12.heap.size w12 (w12.alloc (.cells (wcells [sA, sP]).toArray 24)) := bel
 replace HB := hI (HB.out.trans (hb.mono HB.out.size))
 replace HT := hI (HT.out.below hb rr)
 try replace HTT := hI (HTT.out.below hb rr)
 try replace HE1 := hI (HE1.out.below hb rr)
 try replace HE2 := hI (HE2.out.below hb rr)
 try replace HE3 := hI (HE3.out.below hb rr)
 try replace HE4 := hI (HE4.out.below hb rr)
 try replace HE5 := hI (HE5.out.below hb rr)
 try replace HW1 := hI (HW1.out.below hb rr)
 try clear hb
 rw [show w12.alloc (.cells #[.int .u32 sA.1, .int .u32 sA.2, .int .u32 sP.1, .int .u32 sP.2] 24) = w12.alloc (.cells (wcells [sA, sP]).toArray 24) from rfl]
 have hsz_ : (w12.alloc (.cells (wcells [sA, sP]).toArray 24)).heap.size = w12.heap.size + 1 := by simp
 have HSZ := hI hsz_; clear hsz_
 generalize w12.alloc (.cells (wcells [sA, sP]).toArray 24) = w13 at *
 obtain ⟨k1, ek1⟩ : ∃ k, k = w12.heap.size := ⟨_, rfl⟩
 rw [← ek1] at HW1 HSZ ⊢
 clear ek1
 have hz := built_words w13 [(some ⟨k1, 0, none⟩, 2, 2, [sA, sP])] 32 (by simp) (fun p hp => by
  obtain rfl : p = (some ⟨k1, 0, none⟩, 2, 2, [sA, sP]) := by simpa using hp
  exact HW1.out)
 have hb : Below w13.heap.size w13 (w13.alloc (.cells (([(some ⟨k1, 0, none⟩, 2, 2, [sA, sP])] : List Part).map Part.val).toArray 32)) := bel
 clear HW1
 replace HB := hI (HB.out.trans (hb.mono HB.out.size))
 replace HT := hI (HT.out.below hb rr)
 try replace HTT := hI (HTT.out.below hb rr)
 try replace HE1 := hI (HE1.out.below hb rr)
 try replace HE2 := hI (HE2.out.below hb rr)
 try replace HE3 := hI (HE3.out.below hb rr)
 try replace HE4 := hI (HE4.out.below hb rr)
 try replace HE5 := hI (HE5.out.below hb rr)
 try clear hb
 rw [show w13.alloc (.cells #[.slice (some ⟨k1, 0, none⟩) 2 2] 32) = w13.alloc (.cells (([(some ⟨k1, 0, none⟩, 2, 2, [sA, sP])] : List Part).map Part.val).toArray 32) from rfl]
 generalize w13.alloc (.cells (([(some ⟨k1, 0, none⟩, 2, 2, [sA, sP])] : List Part).map Part.val).toArray 32) = w14 at *
 rw [HSZ.out] at hz
 have HW3 : Hid (IsWords w14 (some ⟨k1 + 1, 0, none⟩) 1 1 [[sA, sP]]) := hz
 clear hz HSZ
 refine (exA29_c _).mono ?_
 rintro e w15 ⟨rfl, hb⟩
 replace HB := hI (HB.out.trans (hb.mono HB.out.size))
 replace HT := hI (HT.out.below hb rr)
 try replace HTT := hI (HTT.out.below hb rr)
 try replace HE1 := hI (HE1.out.below hb rr)
 try replace HE2 := hI (HE2.out.below hb rr)
 try replace HE3 := hI (HE3.out.below hb rr)
 try replace HE4 := hI (HE4.out.below hb rr)
 try replace HE5 := hI (HE5.out.below hb rr)
 try replace HW3 := hI (HW3.out.below hb rr)
 try clear hb
 go_wp2_with fail
 have HW1 := hI (built_word w15 [sA] 24 (by simp))
 have hb : Below w15.heap.size w15 (w15.alloc (.cells (wcells [sA]).toArray 24)) := bel
 replace HB := hI (HB.out.trans (hb.mono HB.out.size))
 replace HT := hI (HT.out.below hb rr)
 try replace HTT := hI (HTT.out.below hb rr)
 try replace HE1 := hI (HE1.out.below hb rr)
 try replace HE2 := hI (HE2.out.below hb rr)
 try replace HE3 := hI (HE3.out.below hb rr)
 try replace HE4 := hI (HE4.out.below hb rr)
 try replace HE5 := hI (HE5.out.below hb rr)
 try replace HW1 := hI (HW1.out.below hb rr)
 try replace HW3 := hI (HW3.out.below hb rr)
 try clear hb
 rw [show w15.alloc (.cells #[.int .u32 sA.1, .int .u32 sA.2] 24) = w15.alloc (.cells (wcells [sA]).toArray 24) from rfl]
 have hsz_ : (w15.alloc (.cells (wcells [sA]).toArray 24)).heap.size = w15.heap.size + 1 := by simp
 have HSZ := hI hsz_; clear hsz_
 generalize w15.alloc (.cells (wcells [sA]).toArray 24) = w16 at *
 obtain ⟨k3, ek3⟩ : ∃ k, k = w15.heap.size := ⟨_, rfl⟩
 rw [← ek3] at HW1 ⊢
 clear ek3 HSZ
 refine (form29_c _ 1 1 w16).mono ?_
 rintro e w17 ⟨rfl, hb⟩
 replace HB := hI (HB.out.trans (hb.mono HB.out.size))
 replace HT := hI (HT.out.below hb rr)
 try replace HTT := hI (HTT.out.below hb rr)
 try replace HE1 := hI (HE1.out.below hb rr)
 try replace HE2 := hI (HE2.out.below hb rr)
 try replace HE3 := hI (HE3.out.below hb rr)
 try replace HE4 := hI (HE4.out.below hb rr)
 try replace HE5 := hI (HE5.out.below hb rr)
 try replace HW1 := hI (HW1.out.below hb rr)
 try replace HW3 := hI (HW3.out.below hb rr)
 try clear hb
 go_wp2_with fail
 refine (form29_c none 0 0 w17).mono ?_
 rintro e w18 ⟨rfl, hb⟩
 replace HB := hI (HB.out.trans (hb.mono HB.out.size))
 replace HT := hI (HT.out.below hb rr)
 try replace HTT := hI (HTT.out.below hb rr)
 try replace HE1 := hI (HE1.out.below hb rr)
 try replace HE2 := hI (HE2.out.below hb rr)
 try replace HE3 := hI (HE3.out.below hb rr)
 try replace HE4 := hI (HE4.out.below hb rr)
 try replace HE5 := hI (HE5.out.below hb rr)
 try replace HW1 := hI (HW1.out.below hb rr)
 try replace HW3 := hI (HW3.out.below hb rr)
 try clear hb
 go_wp2_with fail
 have hz := built_forms w18 [⟨true, (some ⟨k3, 0, none⟩, 1, 1, [sA])⟩, ⟨true, (none, 0, 0, [])⟩, ⟨false, (none, 0, 0, [])⟩] 57 (by simp) (fun f hf => by
  simp only [List.mem_cons, List.not_mem_nil, or_false] at hf
  rcases hf with rfl | rfl | rfl
  ·exact HW1.out
  ·exact Cells.nil _ _
  ·exact Cells.nil _ _)
 have HR1 := hI hz; clear hz
 have hb : Below w18.heap.size w18 (w18.alloc (.cells (([⟨true, (some ⟨k3, 0, none⟩, 1, 1, [sA])⟩, ⟨true, (none, 0, 0, [])⟩, ⟨false, (none, 0, 0, [])⟩] : List FormR).flatMap FormR.cells).toArray 57)) := bel
 clear HW1
 replace HB := hI (HB.out.trans (hb.mono HB.out.size))
 replace HT := hI (HT.out.below hb rr)
 replace HTT := hI (HTT.out.below hb rr)
 replace HE1 := hI (HE1.out.below hb rr)
 replace HE2 := hI (HE2.out.below hb rr)
 replace HE3 := hI (HE3.out.below hb rr)
 replace HE4 := hI (HE4.out.below hb rr)
 replace HE5 := hI (HE5.out.below hb rr)
 replace HW3 := hI (HW3.out.below hb rr)
 clear hb
 rw [show w18.alloc (.cells #[.bool true, .slice (some ⟨k3, 0, none⟩) 1 1, .bool true, .slice none 0 0, .bool false, .slice none 0 0] 57) = w18.alloc (.cells (([⟨true, (some ⟨k3, 0, none⟩, 1, 1, [sA])⟩, ⟨true, (none, 0, 0, [])⟩, ⟨false, (none, 0, 0, [])⟩] : List FormR).flatMap FormR.cells).toArray 57) from rfl]
 have hsz_ : (w18.alloc (.cells (([⟨true, (some ⟨k3, 0, none⟩, 1, 1, [sA])⟩, ⟨true, (none, 0, 0, [])⟩, ⟨false, (none, 0, 0, [])⟩] : List FormR).flatMap FormR.cells).toArray 57)).heap.size = w18.heap.size + 1 := by simp
 have HSZ := hI hsz_; clear hsz_
 generalize w18.alloc (.cells (([⟨true, (some ⟨k3, 0, none⟩, 1, 1, [sA])⟩, ⟨true, (none, 0, 0, [])⟩, ⟨false, (none, 0, 0, [])⟩] : List FormR).flatMap FormR.cells).toArray 57) = w19 at *
 obtain ⟨k4, ek4⟩ : ∃ k, k = w18.heap.size := ⟨_, rfl⟩
 rw [← ek4] at HR1 HSZ ⊢
 clear ek4
 have hz := built_par w19 [⟨some ⟨k4, 0, none⟩, 3, 3, [(true, [sA]), (true, []), (false, [])]⟩] 62 (by simp) (fun r hr => by
  obtain rfl : r = ⟨some ⟨k4, 0, none⟩, 3, 3, [(true, [sA]), (true, []), (false, [])]⟩ := by simpa using hr
  exact HR1.out)
 have HR2 : Hid (IsPar (w19.alloc (.cells (([⟨some ⟨k4, 0, none⟩, 3, 3, [(true, [sA]), (true, []), (false, [])]⟩] : List RowR).map RowR.val).toArray 62)) (some ⟨k4 + 1, 0, none⟩) 1 1 [[(true, [sA]), (true, []), (false, [])]]) := by rw [← HSZ.out]; exact hz
 have hb : Below w19.heap.size w19 (w19.alloc (.cells (([⟨some ⟨k4, 0, none⟩, 3, 3, [(true, [sA]), (true, []), (false, [])]⟩] : List RowR).map RowR.val).toArray 62)) := bel
 clear hz HR1 HSZ
 replace HB := hI (HB.out.trans (hb.mono HB.out.size))
 replace HT := hI (HT.out.below hb rr)
 replace HTT := hI (HTT.out.below hb rr)
 replace HE1 := hI (HE1.out.below hb rr)
 replace HE2 := hI (HE2.out.below hb rr)
 replace HE3 := hI (HE3.out.below hb rr)
 replace HE4 := hI (HE4.out.below hb rr)
 replace HE5 := hI (HE5.out.below hb rr)
 replace HW3 := hI (HW3.out.below hb rr)
 clear hb
 rw [show w19.alloc (.cells #[.slice (some ⟨k4, 0, none⟩) 3 3] 62) = w19.alloc (.cells (([⟨some ⟨k4, 0, none⟩, 3, 3, [(true, [sA]), (true, []), (false, [])]⟩] : List RowR).map RowR.val).toArray 62) from rfl]
 generalize w19.alloc (.cells (([⟨some ⟨k4, 0, none⟩, 3, 3, [(true, [sA]), (true, []), (false, [])]⟩] : List RowR).map RowR.val).toArray 62) = w20 at *
 refine (pBuild_c _ 1 1 [[sA, sP]] _ 1 1 [[(true, [sA]), (true, []), (false, [])]] w20 HW3.out HR2.out).mono ?_
 rw [ex29_6]
 rintro e w21 ⟨A8, n8, c8, rfl, hw, hb⟩
 clear HW3 HR2
 replace HB := hI (HB.out.trans (hb.mono HB.out.size))
 replace HT := hI (HT.out.below hb rr)
 try replace HTT := hI (HTT.out.below hb rr)
 try replace HE1 := hI (HE1.out.below hb rr)
 try replace HE2 := hI (HE2.out.below hb rr)
 try replace HE3 := hI (HE3.out.below hb rr)
 try replace HE4 := hI (HE4.out.below hb rr)
 try replace HE5 := hI (HE5.out.below hb rr)
 try clear hb
 have HE6 := hI hw; clear hw
 go_wp2_with fail
 have hTr : True := trivial
 refine plain_region (fun _ => True) (by kernel_rfl) trivial (fun hHeld => ?_)
 (refine' anyT_tk 0 rfl ?_; (try simp only [Act.put, nY, nX])); (refine' anyT_tk 1 rfl ?_; (try simp only [Act.put, nY, nX]))
 (refine anyT_sp 2 rfl (fun K' hK' => ?_); simp only [nY]; go_simp)
 have hd : Below w21.heap.size w21 w21.drew := (Below.refl w21.heap.size w21).drew
 refine (ex25_c w21.drew).mono ?_
 rintro e w22 ⟨Ax, Bx, Cx, nx, cx, nx', cx', a1, a2, rfl, hl, hb'⟩
 have hb : Below w21.heap.size w21 w22 := hd.trans hb'
 refine hK' _ _ ⟨.inr trivial, fun _ => ?_⟩
 clear hK' K' hd hb'
 replace HB := hI (HB.out.trans (hb.mono HB.out.size))
 replace HT := hI (HT.out.below hb rr)
 try replace HTT := hI (HTT.out.below hb rr)
 try replace HE1 := hI (HE1.out.below hb rr)
 try replace HE2 := hI (HE2.out.below hb rr)
 try replace HE3 := hI (HE3.out.below hb rr)
 try replace HE4 := hI (HE4.out.below hb rr)
 try replace HE5 := hI (HE5.out.below hb rr)
 try replace HE6 := hI (HE6.out.below hb rr)
 try clear hb
 (try simp only [Act.put, nY, nX])
 have hfld : ∀ X : World, (Instr.field 143 (.agg #[.slice Ax nx cx, .slice Bx 2 2, .slice Cx nx' cx']) 1).run Tryz.prog X = .ok (.slice Bx 2 2) X := fun X => by kernel_rfl
 (refine' anyT_tk 3 rfl ?_; (try simp only [Act.put, nY, nX])); (refine' anyT_tk 4 rfl ?_; (try simp only [Act.put, nY, nX]))
 clear hfld
 (refine anyT_sp 5 rfl (fun K' hK' => ?_); simp only [nY]; go_simp)
 refine (pDerive_c _ 1 2 (t29.take 1) Bx 1 2 [⟨v25, a1⟩] w22 (HTT.out.take (by decide)) (hl.take (k := 1) (by decide)) HT.out).mono ?_
 rw [show pDerM (t29.take 1) (lawsD [⟨v25, a1⟩]) = (0, [[(true, [sA, s29B, sA]), (true, [sA, s29B, sA]), (false, []), (true, [sA, s29B, sA])]]) from ex29_7]
 rintro e w23 ⟨A9, n9, c9, rfl, hw, hb⟩
 refine hK' _ _ ⟨.inr trivial, fun _ => ?_⟩
 clear hK' K' hl
 replace HB := hI (HB.out.trans (hb.mono HB.out.size))
 replace HT := hI (HT.out.below hb rr)
 try replace HTT := hI (HTT.out.below hb rr)
 try replace HE1 := hI (HE1.out.below hb rr)
 try replace HE2 := hI (HE2.out.below hb rr)
 try replace HE3 := hI (HE3.out.below hb rr)
 try replace HE4 := hI (HE4.out.below hb rr)
 try replace HE5 := hI (HE5.out.below hb rr)
 try replace HE6 := hI (HE6.out.below hb rr)
 try clear hb
 (try simp only [Act.put, nY, nX])
 (refine' anyT_tk 6 rfl ?_; (try simp only [Act.put, nY, nX])); (refine' anyT_tk 7 rfl ?_; (try simp only [Act.put, nY, nX])); (refine' anyT_tk 8 rfl ?_; (try simp only [Act.put, nY, nX])); (refine' anyT_tk 9 rfl ?_; (try simp only [Act.put, nY, nX]))
 (refine anyT_sp 10 rfl (fun K' hK' => ?_); simp only [nY]; go_simp)
 refine hK' _ _ ⟨.inl (by kernel_rfl), fun _ => anyT_done (by kernel_rfl) ?_ _⟩
 clear hK' K' hHeld hTr
 have hl4 := HE2.out.len
 obtain rfl : 4 = n4 := hl4
 obtain rfl : 1 = n9 := hw.len
 obtain ⟨b4, o4, h4, Ab, nb, cb, wb, rfl, hb4, d0, d1, hx4, hwb⟩ := HE2.out.at_ (k := 1) (by decide)
 obtain ⟨rfl, rfl⟩ : true = h4 ∧ [s29B, sA] = wb := by simpa using hx4
 obtain ⟨b9, o9, Av, nv, cv, lv, rfl, hb9, d2, hx9, hfv⟩ := hw.at_ (k := 0) (by decide)
 obtain rfl : [(true, [sA, s29B, sA]), (true, [sA, s29B, sA]), (false, []), (true, [sA, s29B, sA])] = lv := by simpa using hx9
 obtain rfl : 4 = nv := hfv.len
 obtain ⟨bv, ov, hv, Aw, nw, cw, wv, rfl, hbv, d3, d4, hxv, hwv⟩ := hfv.at_ (k := 0) (by decide)
 obtain ⟨rfl, rfl⟩ : true = hv ∧ [sA, s29B, sA] = wv := by simpa using hxv
 clear hx4 hx9 hxv hw hfv HE2 HTT
 have HF1 := hI hwb; clear hwb
 have HF2 := hI hwv; clear hwv
 have HSB : Hid (∀ X : World, Below w23.heap.size w23 X → (X.cell? ⟨b4, o4 + 2, none⟩ = some (.bool true) ∧ X.cell? ⟨b4, o4 + 2 + 1, none⟩ = some (.slice Ab nb cb) ∧ X.cell? ⟨b9, o9, none⟩ = some (.slice (some ⟨bv, ov, none⟩) 4 cv) ∧ X.cell? ⟨bv, ov, none⟩ = some (.bool true) ∧ X.cell? ⟨bv, ov + 1, none⟩ = some (.slice Aw nw cw))) := fun X hX =>
  ⟨(hX.cell (p := ⟨b4, o4 + 2, none⟩) hb4).trans d0, (hX.cell (p := ⟨b4, o4 + 2 + 1, none⟩) hb4).trans d1, (hX.cell (p := ⟨b9, o9, none⟩) hb9).trans d2, (hX.cell (p := ⟨bv, ov, none⟩) hbv).trans (by simpa using d3), (hX.cell (p := ⟨bv, ov + 1, none⟩) hbv).trans (by simpa using d4)⟩
 clear d0 d1 d2 d3 d4
 have HBd : Hid (Below w23.heap.size w23 w23.drew) := (Below.refl w23.heap.size w23).drew
 have hS := HSB.out _ (Below.refl w23.heap.size w23)
 go_wp2_with fail
 refine plain_region (fun X => X.cell? ⟨b4, o4 + 2, none⟩ = some (.bool true) ∧ X.cell? ⟨b4, o4 + 2 + 1, none⟩ = some (.slice Ab nb cb) ∧ X.cell? ⟨b9, o9, none⟩ = some (.slice (some ⟨bv, ov, none⟩) 4 cv) ∧ X.cell? ⟨bv, ov, none⟩ = some (.bool true) ∧ X.cell? ⟨bv, ov + 1, none⟩ = some (.slice Aw nw cw)) (by kernel_rfl) hS (fun hHeld => ?_)
 clear hHeld
 have hd : Below w23.heap.size w23 w23.drew := (Below.refl w23.heap.size w23).drew
 replace HE1 := hI (HE1.out.below hd rr)
 replace HE3 := hI (HE3.out.below hd rr)
 replace HE4 := hI (HE4.out.below hd rr)
 replace HE5 := hI (HE5.out.below hd rr)
 replace HE6 := hI (HE6.out.below hd rr)
 replace HF1 := hI (HF1.out.below hd rr)
 replace HF2 := hI (HF2.out.below hd rr)
 replace hS := HSB.out _ HBd.out
 clear hd
 refine' anyT_tg 0 rfl hS ?_
 (try simp only [Act.put, nY, nX])
 refine' anyT_tg 1 rfl hS ?_
 (try simp only [Act.put, nY, nX])
 refine' anyT_tg 2 rfl hS ?_
 (try simp only [Act.put, nY, nX])
 refine' anyT_tg 3 rfl hS ?_
 (try simp only [Act.put, nY, nX])
 refine' anyT_tg 4 rfl hS ?_
 (try simp only [Act.put, nY, nX])
 refine' anyT_tg 5 rfl hS ?_
 (try simp only [Act.put, nY, nX])
 refine' anyT_tg 6 rfl hS ?_
 (try simp only [Act.put, nY, nX])
 refine' anyT_tg 7 rfl hS ?_
 (try simp only [Act.put, nY, nX])
 refine' anyT_tg 8 rfl hS ?_
 (try simp only [Act.put, nY, nX])
 refine' anyT_tg 9 rfl hS ?_
 (try simp only [Act.put, nY, nX])
 refine' anyT_tg 10 rfl hS ?_
 (try simp only [Act.put, nY, nX])
 refine' anyT_tg 11 rfl hS ?_
 (try simp only [Act.put, nY, nX])
 refine' anyT_tg 12 rfl hS ?_
 (try simp only [Act.put, nY, nX])
 refine' anyT_tg 13 rfl hS ?_
 (try simp only [Act.put, nY, nX])
 refine' anyT_tg 14 rfl hS ?_
 (try simp only [Act.put, nY, nX])
 refine' anyT_tg 15 rfl hS ?_
 (try simp only [Act.put, nY, nX])
 refine' anyT_tg 16 rfl hS ?_
 (try simp only [Act.put, nY, nX])
 refine' anyT_tg 17 rfl hS ?_
 (try simp only [Act.put, nY, nX])
 refine' anyT_tg 18 rfl hS ?_
 (try simp only [Act.put, nY, nX])
 refine' anyT_tg 19 rfl hS ?_
 (try simp only [Act.put, nY, nX])
 refine' anyT_tg 20 rfl hS ?_
 (try simp only [Act.put, nY, nX])
 refine' anyT_tg 21 rfl hS ?_
 (try simp only [Act.put, nY, nX])
 refine' anyT_tg 22 rfl hS ?_
 (try simp only [Act.put, nY, nX])
 refine' anyT_tg 23 rfl hS ?_
 (try simp only [Act.put, nY, nX])
 refine' anyT_tg 24 rfl hS ?_
 (try simp only [Act.put, nY, nX])
 refine' anyT_tg 25 rfl hS ?_
 (try simp only [Act.put, nY, nX])
 refine' anyT_tg 26 rfl hS ?_
 (try simp only [Act.put, nY, nX])
 refine' anyT_tg 27 rfl hS ?_
 (try simp only [Act.put, nY, nX])
 (refine anyT_st 28 rfl (fun K' hK' => ?_); simp only [nY]; go_simp)
 refine (exA29_c _).mono ?_
 rintro e w24 ⟨rfl, hb⟩
 have hB_ := HBd.out.trans (hb.mono HBd.out.size)
 replace HBd := hI hB_
 try replace HE1 := hI (HE1.out.below hb rr)
 try replace HE3 := hI (HE3.out.below hb rr)
 try replace HE4 := hI (HE4.out.below hb rr)
 try replace HE5 := hI (HE5.out.below hb rr)
 try replace HE6 := hI (HE6.out.below hb rr)
 try replace HF1 := hI (HF1.out.below hb rr)
 try replace HF2 := hI (HF2.out.below hb rr)
 clear hb hB_ hS
 have hS := HSB.out _ HBd.out
 refine hK' _ _ ⟨.inr hS, fun _ => ?_⟩
 clear hK' K'
 (try simp only [Act.put, nY, nX])
 (refine anyT_st 29 rfl (fun K' hK' => ?_); simp only [nY]; go_simp)
 have hz := built_word w24 [sA] 24 (by simp)
 have hb : Below w24.heap.size w24 (w24.alloc (.cells (wcells [sA]).toArray 24)) := bel
 rw [show w24.alloc (.cells #[.int .u32 sA.1, .int .u32 sA.2] 24) = w24.alloc (.cells (wcells [sA]).toArray 24) from rfl]
 generalize w24.alloc (.cells (wcells [sA]).toArray 24) = w25 at *
 obtain ⟨k11, ek⟩ : ∃ k, k = w24.heap.size := ⟨_, rfl⟩
 rw [← ek] at hz ⊢
 clear ek
 have HW1 := hI hz; clear hz
 have hB_ := HBd.out.trans (hb.mono HBd.out.size)
 replace HBd := hI hB_
 try replace HE1 := hI (HE1.out.below hb rr)
 try replace HE3 := hI (HE3.out.below hb rr)
 try replace HE4 := hI (HE4.out.below hb rr)
 try replace HE5 := hI (HE5.out.below hb rr)
 try replace HE6 := hI (HE6.out.below hb rr)
 try replace HF1 := hI (HF1.out.below hb rr)
 try replace HF2 := hI (HF2.out.below hb rr)
 try replace HW1 := hI (HW1.out.below hb rr)
 clear hb hB_ hS
 have hS := HSB.out _ HBd.out
 refine hK' _ _ ⟨.inr hS, fun _ => ?_⟩
 clear hK' K'
 (try simp only [Act.put, nY, nX])
 (refine anyT_st 30 rfl (fun K' hK' => ?_); simp only [nY]; go_simp)
 refine (rEqual_c A3 (some ⟨k11, 0, none⟩) n3 1 c3 1 [sA] [sA] _ HE1.out HW1.out).mono ?_
 rintro e w26 ⟨rfl, hb⟩
 rw [show decide ([sA] = [sA]) = true from decide_eq_true rfl]
 clear HW1 HE1
 have hB_ := HBd.out.trans (hb.mono HBd.out.size)
 replace HBd := hI hB_
 try replace HE3 := hI (HE3.out.below hb rr)
 try replace HE4 := hI (HE4.out.below hb rr)
 try replace HE5 := hI (HE5.out.below hb rr)
 try replace HE6 := hI (HE6.out.below hb rr)
 try replace HF1 := hI (HF1.out.below hb rr)
 try replace HF2 := hI (HF2.out.below hb rr)
 clear hb hB_ hS
 have hS := HSB.out _ HBd.out
 refine hK' _ _ ⟨.inr hS, fun _ => ?_⟩
 clear hK' K'
 (try simp only [Act.put, nY, nX])
 refine' anyT_tg 31 rfl hS ?_
 (try simp only [Act.put, nY, nX])
 refine' anyT_tg 32 rfl hS ?_
 (try simp only [Act.put, nY, nX])
 refine' anyT_tg 33 rfl hS ?_
 (try simp only [Act.put, nY, nX])
 refine' anyT_tg 34 rfl hS ?_
 (try simp only [Act.put, nY, nX])
 refine' anyT_tg 35 rfl hS ?_
 (try simp only [Act.put, nY, nX])
 refine' anyT_tg 36 rfl hS ?_
 (try simp only [Act.put, nY, nX])
 refine' anyT_tg 37 rfl hS ?_
 (try simp only [Act.put, nY, nX])
 refine' anyT_tg 38 rfl hS ?_
 (try simp only [Act.put, nY, nX])
 refine' anyT_tg 39 rfl hS ?_
 (try simp only [Act.put, nY, nX])
 refine' anyT_tg 40 rfl hS ?_
 (try simp only [Act.put, nY, nX])
 (refine anyT_st 41 rfl (fun K' hK' => ?_); simp only [nY]; go_simp)
 refine (exB29_c _).mono ?_
 rintro e w27 ⟨rfl, hb⟩
 have hB_ := HBd.out.trans (hb.mono HBd.out.size)
 replace HBd := hI hB_
 try replace HE3 := hI (HE3.out.below hb rr)
 try replace HE4 := hI (HE4.out.below hb rr)
 try replace HE5 := hI (HE5.out.below hb rr)
 try replace HE6 := hI (HE6.out.below hb rr)
 try replace HF1 := hI (HF1.out.below hb rr)
 try replace HF2 := hI (HF2.out.below hb rr)
 clear hb hB_ hS
 have hS := HSB.out _ HBd.out
 refine hK' _ _ ⟨.inr hS, fun _ => ?_⟩
 clear hK' K'
 (try simp only [Act.put, nY, nX])
 (refine anyT_st 42 rfl (fun K' hK' => ?_); simp only [nY]; go_simp)
 refine (exA29_c _).mono ?_
 rintro e w28 ⟨rfl, hb⟩
 have hB_ := HBd.out.trans (hb.mono HBd.out.size)
 replace HBd := hI hB_
 try replace HE3 := hI (HE3.out.below hb rr)
 try replace HE4 := hI (HE4.out.below hb rr)
 try replace HE5 := hI (HE5.out.below hb rr)
 try replace HE6 := hI (HE6.out.below hb rr)
 try replace HF1 := hI (HF1.out.below hb rr)
 try replace HF2 := hI (HF2.out.below hb rr)
 clear hb hB_ hS
 have hS := HSB.out _ HBd.out
 refine hK' _ _ ⟨.inr hS, fun _ => ?_⟩
 clear hK' K'
 (try simp only [Act.put, nY, nX])
 (refine anyT_st 43 rfl (fun K' hK' => ?_); simp only [nY]; go_simp)
 have hz := built_word w28 [s29B, sA] 24 (by simp)
 have hb : Below w28.heap.size w28 (w28.alloc (.cells (wcells [s29B, sA]).toArray 24)) := bel
 rw [show w28.alloc (.cells #[.int .u32 s29B.1, .int .u32 s29B.2, .int .u32 sA.1, .int .u32 sA.2] 24) = w28.alloc (.cells (wcells [s29B, sA]).toArray 24) from rfl]
 generalize w28.alloc (.cells (wcells [s29B, sA]).toArray 24) = w29 at *
 obtain ⟨k12, ek⟩ : ∃ k, k = w28.heap.size := ⟨_, rfl⟩
 rw [← ek] at hz ⊢
 clear ek
 have HW1 := hI hz; clear hz
 have hB_ := HBd.out.trans (hb.mono HBd.out.size)
 replace HBd := hI hB_
 try replace HE3 := hI (HE3.out.below hb rr)
 try replace HE4 := hI (HE4.out.below hb rr)
 try replace HE5 := hI (HE5.out.below hb rr)
 try replace HE6 := hI (HE6.out.below hb rr)
 try replace HF1 := hI (HF1.out.below hb rr)
 try replace HF2 := hI (HF2.out.below hb rr)
 try replace HW1 := hI (HW1.out.below hb rr)
 clear hb hB_ hS
 have hS := HSB.out _ HBd.out
 refine hK' _ _ ⟨.inr hS, fun _ => ?_⟩
 clear hK' K'
 (try simp only [Act.put, nY, nX])
 (refine anyT_st 44 rfl (fun K' hK' => ?_); simp only [nY]; go_simp)
 refine (form29_c (some ⟨k12, 0, none⟩) 2 2 _).mono ?_
 rintro e w30 ⟨rfl, hb⟩
 have hB_ := HBd.out.trans (hb.mono HBd.out.size)
 replace HBd := hI hB_
 try replace HE3 := hI (HE3.out.below hb rr)
 try replace HE4 := hI (HE4.out.below hb rr)
 try replace HE5 := hI (HE5.out.below hb rr)
 try replace HE6 := hI (HE6.out.below hb rr)
 try replace HF1 := hI (HF1.out.below hb rr)
 try replace HF2 := hI (HF2.out.below hb rr)
 try replace HW1 := hI (HW1.out.below hb rr)
 clear hb hB_ hS
 have hS := HSB.out _ HBd.out
 refine hK' _ _ ⟨.inr hS, fun _ => ?_⟩
 clear hK' K'
 (try simp only [Act.put, nY, nX])
 (refine anyT_st 45 rfl (fun K' hK' => ?_); simp only [nY]; go_simp)
 refine (r29Equal_c ⟨true, (Ab, nb, cb, [s29B, sA])⟩ ⟨true, (some ⟨k12, 0, none⟩, 2, 2, [s29B, sA])⟩ _ HF1.out HW1.out).mono ?_
 rintro e w31 ⟨rfl, hb⟩
 rw [show decide (FormR.data ⟨true, (Ab, nb, cb, [s29B, sA])⟩ = FormR.data ⟨true, (some ⟨k12, 0, none⟩, 2, 2, [s29B, sA])⟩) = true from decide_eq_true rfl]
 clear HW1 HF1
 have hB_ := HBd.out.trans (hb.mono HBd.out.size)
 replace HBd := hI hB_
 try replace HE3 := hI (HE3.out.below hb rr)
 try replace HE4 := hI (HE4.out.below hb rr)
 try replace HE5 := hI (HE5.out.below hb rr)
 try replace HE6 := hI (HE6.out.below hb rr)
 try replace HF2 := hI (HF2.out.below hb rr)
 clear hb hB_ hS
 have hS := HSB.out _ HBd.out
 refine hK' _ _ ⟨.inr hS, fun _ => ?_⟩
 clear hK' K'
 (try simp only [Act.put, nY, nX])
 refine' anyT_tg 46 rfl hS ?_
 (try simp only [Act.put, nY, nX])
 refine' anyT_tg 47 rfl hS ?_
 (try simp only [Act.put, nY, nX])
 refine' anyT_tg 48 rfl hS ?_
 (try simp only [Act.put, nY, nX])
 (refine anyT_st 49 rfl (fun K' hK' => ?_); simp only [nY]; go_simp)
 have hz := built_ints w31 [0, 1, 2, 0] 3 (by simp)
 have hb : Below w31.heap.size w31 (w31.alloc (.cells (([0, 1, 2, 0] : List Int).map (Value.int .i64)).toArray 3)) := bel
 rw [show w31.alloc (.cells #[.int .i64 0, .int .i64 1, .int .i64 2, .int .i64 0] 3) = w31.alloc (.cells (([0, 1, 2, 0] : List Int).map (Value.int .i64)).toArray 3) from rfl]
 generalize w31.alloc (.cells (([0, 1, 2, 0] : List Int).map (Value.int .i64)).toArray 3) = w32 at *
 obtain ⟨k13, ek⟩ : ∃ k, k = w31.heap.size := ⟨_, rfl⟩
 rw [← ek] at hz ⊢
 clear ek
 have HW1 := hI hz; clear hz
 have hB_ := HBd.out.trans (hb.mono HBd.out.size)
 replace HBd := hI hB_
 try replace HE3 := hI (HE3.out.below hb rr)
 try replace HE4 := hI (HE4.out.below hb rr)
 try replace HE5 := hI (HE5.out.below hb rr)
 try replace HE6 := hI (HE6.out.below hb rr)
 try replace HF2 := hI (HF2.out.below hb rr)
 try replace HW1 := hI (HW1.out.below hb rr)
 clear hb hB_ hS
 have hS := HSB.out _ HBd.out
 refine hK' _ _ ⟨.inr hS, fun _ => ?_⟩
 clear hK' K'
 (try simp only [Act.put, nY, nX])
 (refine anyT_st 50 rfl (fun K' hK' => ?_); simp only [nY]; go_simp)
 refine (equal29_c A5 (some ⟨k13, 0, none⟩) n5 4 c5 4 [0, 1, 2, 0] [0, 1, 2, 0] _ HE3.out HW1.out).mono ?_
 rintro e w33 ⟨rfl, hb⟩
 rw [show decide (([0, 1, 2, 0] : List Int) = [0, 1, 2, 0]) = true from decide_eq_true rfl]
 clear HW1 HE3
 have hB_ := HBd.out.trans (hb.mono HBd.out.size)
 replace HBd := hI hB_
 try replace HE4 := hI (HE4.out.below hb rr)
 try replace HE5 := hI (HE5.out.below hb rr)
 try replace HE6 := hI (HE6.out.below hb rr)
 try replace HF2 := hI (HF2.out.below hb rr)
 clear hb hB_ hS
 have hS := HSB.out _ HBd.out
 refine hK' _ _ ⟨.inr hS, fun _ => ?_⟩
 clear hK' K'
 (try simp only [Act.put, nY, nX])
 refine' anyT_tg 51 rfl hS ?_
 (try simp only [Act.put, nY, nX])
 refine' anyT_tg 52 rfl hS ?_
 (try simp only [Act.put, nY, nX])
 refine' anyT_tg 53 rfl hS ?_
 (try simp only [Act.put, nY, nX])
 (refine anyT_st 54 rfl (fun K' hK' => ?_); simp only [nY]; go_simp)
 have hz := built_ints w33 [0, 0, 2, 0] 3 (by simp)
 have hb : Below w33.heap.size w33 (w33.alloc (.cells (([0, 0, 2, 0] : List Int).map (Value.int .i64)).toArray 3)) := bel
 rw [show w33.alloc (.cells #[.int .i64 0, .int .i64 0, .int .i64 2, .int .i64 0] 3) = w33.alloc (.cells (([0, 0, 2, 0] : List Int).map (Value.int .i64)).toArray 3) from rfl]
 generalize w33.alloc (.cells (([0, 0, 2, 0] : List Int).map (Value.int .i64)).toArray 3) = w34 at *
 obtain ⟨k14, ek⟩ : ∃ k, k = w33.heap.size := ⟨_, rfl⟩
 rw [← ek] at hz ⊢
 clear ek
 have HW1 := hI hz; clear hz
 have hB_ := HBd.out.trans (hb.mono HBd.out.size)
 replace HBd := hI hB_
 try replace HE4 := hI (HE4.out.below hb rr)
 try replace HE5 := hI (HE5.out.below hb rr)
 try replace HE6 := hI (HE6.out.below hb rr)
 try replace HF2 := hI (HF2.out.below hb rr)
 try replace HW1 := hI (HW1.out.below hb rr)
 clear hb hB_ hS
 have hS := HSB.out _ HBd.out
 refine hK' _ _ ⟨.inr hS, fun _ => ?_⟩
 clear hK' K'
 (try simp only [Act.put, nY, nX])
 (refine anyT_st 55 rfl (fun K' hK' => ?_); simp only [nY]; go_simp)
 refine (equal29_c A6 (some ⟨k14, 0, none⟩) n6 4 c6 4 [0, 0, 2, 0] [0, 0, 2, 0] _ HE4.out HW1.out).mono ?_
 rintro e w35 ⟨rfl, hb⟩
 rw [show decide (([0, 0, 2, 0] : List Int) = [0, 0, 2, 0]) = true from decide_eq_true rfl]
 clear HW1 HE4
 have hB_ := HBd.out.trans (hb.mono HBd.out.size)
 replace HBd := hI hB_
 try replace HE5 := hI (HE5.out.below hb rr)
 try replace HE6 := hI (HE6.out.below hb rr)
 try replace HF2 := hI (HF2.out.below hb rr)
 clear hb hB_ hS
 have hS := HSB.out _ HBd.out
 refine hK' _ _ ⟨.inr hS, fun _ => ?_⟩
 clear hK' K'
 (try simp only [Act.put, nY, nX])
 refine' anyT_tg 56 rfl hS ?_
 (try simp only [Act.put, nY, nX])
 refine' anyT_tg 57 rfl hS ?_
 (try simp only [Act.put, nY, nX])
 refine' anyT_tg 58 rfl hS ?_
 (try simp only [Act.put, nY, nX])
 (refine anyT_st 59 rfl (fun K' hK' => ?_); simp only [nY]; go_simp)
 have hz := built_ints w35 [0, 0] 3 (by simp)
 have hb : Below w35.heap.size w35 (w35.alloc (.cells (([0, 0] : List Int).map (Value.int .i64)).toArray 3)) := bel
 rw [show w35.alloc (.cells #[.int .i64 0, .int .i64 0] 3) = w35.alloc (.cells (([0, 0] : List Int).map (Value.int .i64)).toArray 3) from rfl]
 generalize w35.alloc (.cells (([0, 0] : List Int).map (Value.int .i64)).toArray 3) = w36 at *
 obtain ⟨k15, ek⟩ : ∃ k, k = w35.heap.size := ⟨_, rfl⟩
 rw [← ek] at hz ⊢
 clear ek
 have HW1 := hI hz; clear hz
 have hB_ := HBd.out.trans (hb.mono HBd.out.size)
 replace HBd := hI hB_
 try replace HE5 := hI (HE5.out.below hb rr)
 try replace HE6 := hI (HE6.out.below hb rr)
 try replace HF2 := hI (HF2.out.below hb rr)
 try replace HW1 := hI (HW1.out.below hb rr)
 clear hb hB_ hS
 have hS := HSB.out _ HBd.out
 refine hK' _ _ ⟨.inr hS, fun _ => ?_⟩
 clear hK' K'
 (try simp only [Act.put, nY, nX])
 (refine anyT_st 60 rfl (fun K' hK' => ?_); simp only [nY]; go_simp)
 refine (equal29_c A7 (some ⟨k15, 0, none⟩) n7 2 c7 2 [0, 0] [0, 0] _ HE5.out HW1.out).mono ?_
 rintro e w37 ⟨rfl, hb⟩
 rw [show decide (([0, 0] : List Int) = [0, 0]) = true from decide_eq_true rfl]
 clear HW1 HE5
 have hB_ := HBd.out.trans (hb.mono HBd.out.size)
 replace HBd := hI hB_
 try replace HE6 := hI (HE6.out.below hb rr)
 try replace HF2 := hI (HF2.out.below hb rr)
 clear hb hB_ hS
 have hS := HSB.out _ HBd.out
 refine hK' _ _ ⟨.inr hS, fun _ => ?_⟩
 clear hK' K'
 (try simp only [Act.put, nY, nX])
 refine' anyT_tg 61 rfl hS ?_
 (try simp only [Act.put, nY, nX])
 refine' anyT_tg 62 rfl hS ?_
 (try simp only [Act.put, nY, nX])
 refine' anyT_tg 63 rfl hS ?_
 (try simp only [Act.put, nY, nX])
 refine' anyT_tg 73 rfl hS ?_
 (try simp only [Act.put, nY, nX])
 (refine anyT_st 64 rfl (fun K' hK' => ?_); simp only [nY]; go_simp)
 refine (exA29_c _).mono ?_
 rintro e w38 ⟨rfl, hb⟩
 have hB_ := HBd.out.trans (hb.mono HBd.out.size)
 replace HBd := hI hB_
 try replace HE6 := hI (HE6.out.below hb rr)
 try replace HF2 := hI (HF2.out.below hb rr)
 clear hb hB_ hS
 have hS := HSB.out _ HBd.out
 refine hK' _ _ ⟨.inr hS, fun _ => ?_⟩
 clear hK' K'
 (try simp only [Act.put, nY, nX])
 (refine anyT_st 65 rfl (fun K' hK' => ?_); simp only [nY]; go_simp)
 refine (exP29_c _).mono ?_
 rintro e w39 ⟨rfl, hb⟩
 have hB_ := HBd.out.trans (hb.mono HBd.out.size)
 replace HBd := hI hB_
 try replace HE6 := hI (HE6.out.below hb rr)
 try replace HF2 := hI (HF2.out.below hb rr)
 clear hb hB_ hS
 have hS := HSB.out _ HBd.out
 refine hK' _ _ ⟨.inr hS, fun _ => ?_⟩
 clear hK' K'
 (try simp only [Act.put, nY, nX])
 (refine anyT_st 66 rfl (fun K' hK' => ?_); simp only [nY]; go_simp)
 refine (exA29_c _).mono ?_
 rintro e w40 ⟨rfl, hb⟩
 have hB_ := HBd.out.trans (hb.mono HBd.out.size)
 replace HBd := hI hB_
 try replace HE6 := hI (HE6.out.below hb rr)
 try replace HF2 := hI (HF2.out.below hb rr)
 clear hb hB_ hS
 have hS := HSB.out _ HBd.out
 refine hK' _ _ ⟨.inr hS, fun _ => ?_⟩
 clear hK' K'
 (try simp only [Act.put, nY, nX])
 (refine anyT_st 67 rfl (fun K' hK' => ?_); simp only [nY]; go_simp)
 have hz := built_word w40 [sA, sP, sA] 24 (by simp)
 have hb : Below w40.heap.size w40 (w40.alloc (.cells (wcells [sA, sP, sA]).toArray 24)) := bel
 rw [show w40.alloc (.cells #[.int .u32 sA.1, .int .u32 sA.2, .int .u32 sP.1, .int .u32 sP.2, .int .u32 sA.1, .int .u32 sA.2] 24) = w40.alloc (.cells (wcells [sA, sP, sA]).toArray 24) from rfl]
 generalize w40.alloc (.cells (wcells [sA, sP, sA]).toArray 24) = w41 at *
 obtain ⟨k16, ek⟩ : ∃ k, k = w40.heap.size := ⟨_, rfl⟩
 rw [← ek] at hz ⊢
 clear ek
 have HW1 := hI hz; clear hz
 have hB_ := HBd.out.trans (hb.mono HBd.out.size)
 replace HBd := hI hB_
 try replace HE6 := hI (HE6.out.below hb rr)
 try replace HF2 := hI (HF2.out.below hb rr)
 try replace HW1 := hI (HW1.out.below hb rr)
 clear hb hB_ hS
 have hS := HSB.out _ HBd.out
 refine hK' _ _ ⟨.inr hS, fun _ => ?_⟩
 clear hK' K'
 (try simp only [Act.put, nY, nX])
 (refine anyT_st 68 rfl (fun K' hK' => ?_); simp only [nY]; go_simp)
 refine (form29_c (some ⟨k16, 0, none⟩) 3 3 _).mono ?_
 rintro e w42 ⟨rfl, hb⟩
 have hB_ := HBd.out.trans (hb.mono HBd.out.size)
 replace HBd := hI hB_
 try replace HE6 := hI (HE6.out.below hb rr)
 try replace HF2 := hI (HF2.out.below hb rr)
 try replace HW1 := hI (HW1.out.below hb rr)
 clear hb hB_ hS
 have hS := HSB.out _ HBd.out
 refine hK' _ _ ⟨.inr hS, fun _ => ?_⟩
 clear hK' K'
 (try simp only [Act.put, nY, nX])
 (refine anyT_st 69 rfl (fun K' hK' => ?_); simp only [nY]; go_simp)
 refine (exA29_c _).mono ?_
 rintro e w43 ⟨rfl, hb⟩
 have hB_ := HBd.out.trans (hb.mono HBd.out.size)
 replace HBd := hI hB_
 try replace HE6 := hI (HE6.out.below hb rr)
 try replace HF2 := hI (HF2.out.below hb rr)
 try replace HW1 := hI (HW1.out.below hb rr)
 clear hb hB_ hS
 have hS := HSB.out _ HBd.out
 refine hK' _ _ ⟨.inr hS, fun _ => ?_⟩
 clear hK' K'
 (try simp only [Act.put, nY, nX])
 (refine anyT_st 70 rfl (fun K' hK' => ?_); simp only [nY]; go_simp)
 refine (exP29_c _).mono ?_
 rintro e w44 ⟨rfl, hb⟩
 have hB_ := HBd.out.trans (hb.mono HBd.out.size)
 replace HBd := hI hB_
 try replace HE6 := hI (HE6.out.below hb rr)
 try replace HF2 := hI (HF2.out.below hb rr)
 try replace HW1 := hI (HW1.out.below hb rr)
 clear hb hB_ hS
 have hS := HSB.out _ HBd.out
 refine hK' _ _ ⟨.inr hS, fun _ => ?_⟩
 clear hK' K'
 (try simp only [Act.put, nY, nX])
 (refine anyT_st 71 rfl (fun K' hK' => ?_); simp only [nY]; go_simp)
 have hz := built_word w44 [sA, sP] 24 (by simp)
 have hb : Below w44.heap.size w44 (w44.alloc (.cells (wcells [sA, sP]).toArray 24)) := bel
 rw [show w44.alloc (.cells #[.int .u32 sA.1, .int .u32 sA.2, .int .u32 sP.1, .int .u32 sP.2] 24) = w44.alloc (.cells (wcells [sA, sP]).toArray 24) from rfl]
 generalize w44.alloc (.cells (wcells [sA, sP]).toArray 24) = w45 at *
 obtain ⟨k17, ek⟩ : ∃ k, k = w44.heap.size := ⟨_, rfl⟩
 rw [← ek] at hz ⊢
 clear ek
 have HW2 := hI hz; clear hz
 have hB_ := HBd.out.trans (hb.mono HBd.out.size)
 replace HBd := hI hB_
 try replace HE6 := hI (HE6.out.below hb rr)
 try replace HF2 := hI (HF2.out.below hb rr)
 try replace HW1 := hI (HW1.out.below hb rr)
 try replace HW2 := hI (HW2.out.below hb rr)
 clear hb hB_ hS
 have hS := HSB.out _ HBd.out
 refine hK' _ _ ⟨.inr hS, fun _ => ?_⟩
 clear hK' K'
 (try simp only [Act.put, nY, nX])
 (refine anyT_st 72 rfl (fun K' hK' => ?_); simp only [nY]; go_simp)
 refine (form29_c (some ⟨k17, 0, none⟩) 2 2 _).mono ?_
 rintro e w46 ⟨rfl, hb⟩
 have hB_ := HBd.out.trans (hb.mono HBd.out.size)
 replace HBd := hI hB_
 try replace HE6 := hI (HE6.out.below hb rr)
 try replace HF2 := hI (HF2.out.below hb rr)
 try replace HW1 := hI (HW1.out.below hb rr)
 try replace HW2 := hI (HW2.out.below hb rr)
 clear hb hB_ hS
 have hS := HSB.out _ HBd.out
 refine hK' _ _ ⟨.inr hS, fun _ => ?_⟩
 clear hK' K'
 (try simp only [Act.put, nY, nX])
 (refine anyT_st 74 rfl (fun K' hK' => ?_); simp only [nY]; go_simp)
 have hz := built_forms w46 ([⟨true, (some ⟨k16, 0, none⟩, 3, 3, [sA, sP, sA])⟩, ⟨true, (some ⟨k17, 0, none⟩, 2, 2, [sA, sP])⟩, ⟨false, (none, 0, 0, [])⟩] : List FormR) 57 (by simp) (fun f hf => by
  simp only [List.mem_cons, List.not_mem_nil, or_false] at hf
  rcases hf with rfl | rfl | rfl
  ·exact HW1.out
  ·exact HW2.out
  ·exact Cells.nil _ _)
 have hb : Below w46.heap.size w46 (w46.alloc (.cells (([⟨true, (some ⟨k16, 0, none⟩, 3, 3, [sA, sP, sA])⟩, ⟨true, (some ⟨k17, 0, none⟩, 2, 2, [sA, sP])⟩, ⟨false, (none, 0, 0, [])⟩] : List FormR).flatMap FormR.cells).toArray 57)) := bel
 rw [show w46.alloc (.cells #[.bool true, .slice (some ⟨k16, 0, none⟩) 3 3, .bool true, .slice (some ⟨k17, 0, none⟩) 2 2, .bool false, .slice none 0 0] 57) = w46.alloc (.cells (([⟨true, (some ⟨k16, 0, none⟩, 3, 3, [sA, sP, sA])⟩, ⟨true, (some ⟨k17, 0, none⟩, 2, 2, [sA, sP])⟩, ⟨false, (none, 0, 0, [])⟩] : List FormR).flatMap FormR.cells).toArray 57) from rfl]
 generalize w46.alloc (.cells (([⟨true, (some ⟨k16, 0, none⟩, 3, 3, [sA, sP, sA])⟩, ⟨true, (some ⟨k17, 0, none⟩, 2, 2, [sA, sP])⟩, ⟨false, (none, 0, 0, [])⟩] : List FormR).flatMap FormR.cells).toArray 57) = w47 at *
 obtain ⟨k90, ek⟩ : ∃ k, k = w46.heap.size := ⟨_, rfl⟩
 rw [← ek] at hz ⊢
 clear ek HW1 HW2
 have HW1 : Hid (IsForms w47 (some ⟨k90, 0, none⟩) 3 3 [(true, [sA, sP, sA]), (true, [sA, sP]), (false, [])]) := hz
 clear hz
 have hB_ := HBd.out.trans (hb.mono HBd.out.size)
 replace HBd := hI hB_
 try replace HE6 := hI (HE6.out.below hb rr)
 try replace HF2 := hI (HF2.out.below hb rr)
 try replace HW1 := hI (HW1.out.below hb rr)
 clear hb hB_ hS
 have hS := HSB.out _ HBd.out
 refine hK' _ _ ⟨.inr hS, fun _ => ?_⟩
 clear hK' K'
 (try simp only [Act.put, nY, nX])
 (refine anyT_st 75 rfl (fun K' hK' => ?_); simp only [nY]; go_simp)
 have hz := built_par w47 ([⟨some ⟨k90, 0, none⟩, 3, 3, [(true, [sA, sP, sA]), (true, [sA, sP]), (false, [])]⟩] : List RowR) 62 (by simp) (fun r hr => by
  obtain rfl : r = ⟨some ⟨k90, 0, none⟩, 3, 3, [(true, [sA, sP, sA]), (true, [sA, sP]), (false, [])]⟩ := by simpa using hr
  exact HW1.out)
 have hb : Below w47.heap.size w47 (w47.alloc (.cells (([⟨some ⟨k90, 0, none⟩, 3, 3, [(true, [sA, sP, sA]), (true, [sA, sP]), (false, [])]⟩] : List RowR).map RowR.val).toArray 62)) := bel
 rw [show w47.alloc (.cells #[.slice (some ⟨k90, 0, none⟩) 3 3] 62) = w47.alloc (.cells (([⟨some ⟨k90, 0, none⟩, 3, 3, [(true, [sA, sP, sA]), (true, [sA, sP]), (false, [])]⟩] : List RowR).map RowR.val).toArray 62) from rfl]
 generalize w47.alloc (.cells (([⟨some ⟨k90, 0, none⟩, 3, 3, [(true, [sA, sP, sA]), (true, [sA, sP]), (false, [])]⟩] : List RowR).map RowR.val).toArray 62) = w48 at *
 obtain ⟨k91, ek⟩ : ∃ k, k = w47.heap.size := ⟨_, rfl⟩
 rw [← ek] at hz ⊢
 clear ek HW1
 have HW1 : Hid (IsPar w48 (some ⟨k91, 0, none⟩) 1 1 [[(true, [sA, sP, sA]), (true, [sA, sP]), (false, [])]]) := hz
 clear hz
 have hB_ := HBd.out.trans (hb.mono HBd.out.size)
 replace HBd := hI hB_
 try replace HE6 := hI (HE6.out.below hb rr)
 try replace HF2 := hI (HF2.out.below hb rr)
 try replace HW1 := hI (HW1.out.below hb rr)
 clear hb hB_ hS
 have hS := HSB.out _ HBd.out
 refine hK' _ _ ⟨.inr hS, fun _ => ?_⟩
 clear hK' K'
 (try simp only [Act.put, nY, nX])
 (refine anyT_st 76 rfl (fun K' hK' => ?_); simp only [nY]; go_simp)
 refine (same29_c A8 (some ⟨k91, 0, none⟩) n8 1 c8 1 [[(true, [sA, sP, sA]), (true, [sA, sP]), (false, [])]] [[(true, [sA, sP, sA]), (true, [sA, sP]), (false, [])]] _ HE6.out HW1.out).mono ?_
 rintro e w49 ⟨rfl, hb⟩
 rw [show decide (([[(true, [sA, sP, sA]), (true, [sA, sP]), (false, [])]] : List (List Frm)) = [[(true, [sA, sP, sA]), (true, [sA, sP]), (false, [])]]) = true from decide_eq_true rfl]
 clear HW1 HE6
 have hB_ := HBd.out.trans (hb.mono HBd.out.size)
 replace HBd := hI hB_
 try replace HF2 := hI (HF2.out.below hb rr)
 clear hb hB_ hS
 have hS := HSB.out _ HBd.out
 refine hK' _ _ ⟨.inr hS, fun _ => ?_⟩
 clear hK' K'
 (try simp only [Act.put, nY, nX])
 refine' anyT_tg 77 rfl hS ?_
 (try simp only [Act.put, nY, nX])
 refine' anyT_tg 78 rfl hS ?_
 (try simp only [Act.put, nY, nX])
 refine' anyT_tg 79 rfl hS ?_
 (try simp only [Act.put, nY, nX])
 refine' anyT_tg 80 rfl hS ?_
 (try simp only [Act.put, nY, nX])
 refine' anyT_tg 81 rfl hS ?_
 (try simp only [Act.put, nY, nX])
 refine' anyT_tg 82 rfl hS ?_
 (try simp only [Act.put, nY, nX])
 refine' anyT_tg 83 rfl hS ?_
 (try simp only [Act.put, nY, nX])
 refine' anyT_tg 84 rfl hS ?_
 (try simp only [Act.put, nY, nX])
 refine' anyT_tg 85 rfl hS ?_
 (try simp only [Act.put, nY, nX])
 refine' anyT_tg 86 rfl hS ?_
 (try simp only [Act.put, nY, nX])
 refine' anyT_tg 87 rfl hS ?_
 (try simp only [Act.put, nY, nX])
 refine' anyT_tg 88 rfl hS ?_
 (try simp only [Act.put, nY, nX])
 refine' anyT_tg 89 rfl hS ?_
 (try simp only [Act.put, nY, nX])
 refine' anyT_tg 90 rfl hS ?_
 (try simp only [Act.put, nY, nX])
 refine' anyT_tg 91 rfl hS ?_
 (try simp only [Act.put, nY, nX])
 refine' anyT_tg 92 rfl hS ?_
 (try simp only [Act.put, nY, nX])
 refine' anyT_tg 93 rfl hS ?_
 (try simp only [Act.put, nY, nX])
 refine' anyT_tg 94 rfl hS ?_
 (try simp only [Act.put, nY, nX])
 refine' anyT_tg 95 rfl hS ?_
 (try simp only [Act.put, nY, nX])
 (refine anyT_st 96 rfl (fun K' hK' => ?_); simp only [nY]; go_simp)
 refine (exA29_c _).mono ?_
 rintro e w50 ⟨rfl, hb⟩
 have hB_ := HBd.out.trans (hb.mono HBd.out.size)
 replace HBd := hI hB_
 try replace HF2 := hI (HF2.out.below hb rr)
 clear hb hB_ hS
 have hS := HSB.out _ HBd.out
 refine hK' _ _ ⟨.inr hS, fun _ => ?_⟩
 clear hK' K'
 (try simp only [Act.put, nY, nX])
 (refine anyT_st 97 rfl (fun K' hK' => ?_); simp only [nY]; go_simp)
 refine (exB29_c _).mono ?_
 rintro e w51 ⟨rfl, hb⟩
 have hB_ := HBd.out.trans (hb.mono HBd.out.size)
 replace HBd := hI hB_
 try replace HF2 := hI (HF2.out.below hb rr)
 clear hb hB_ hS
 have hS := HSB.out _ HBd.out
 refine hK' _ _ ⟨.inr hS, fun _ => ?_⟩
 clear hK' K'
 (try simp only [Act.put, nY, nX])
 (refine anyT_st 98 rfl (fun K' hK' => ?_); simp only [nY]; go_simp)
 refine (exA29_c _).mono ?_
 rintro e w52 ⟨rfl, hb⟩
 have hB_ := HBd.out.trans (hb.mono HBd.out.size)
 replace HBd := hI hB_
 try replace HF2 := hI (HF2.out.below hb rr)
 clear hb hB_ hS
 have hS := HSB.out _ HBd.out
 refine hK' _ _ ⟨.inr hS, fun _ => ?_⟩
 clear hK' K'
 (try simp only [Act.put, nY, nX])
 (refine anyT_st 99 rfl (fun K' hK' => ?_); simp only [nY]; go_simp)
 have hz := built_word w52 [sA, s29B, sA] 24 (by simp)
 have hb : Below w52.heap.size w52 (w52.alloc (.cells (wcells [sA, s29B, sA]).toArray 24)) := bel
 rw [show w52.alloc (.cells #[.int .u32 sA.1, .int .u32 sA.2, .int .u32 s29B.1, .int .u32 s29B.2, .int .u32 sA.1, .int .u32 sA.2] 24) = w52.alloc (.cells (wcells [sA, s29B, sA]).toArray 24) from rfl]
 generalize w52.alloc (.cells (wcells [sA, s29B, sA]).toArray 24) = w53 at *
 obtain ⟨k18, ek⟩ : ∃ k, k = w52.heap.size := ⟨_, rfl⟩
 rw [← ek] at hz ⊢
 clear ek
 have HW1 := hI hz; clear hz
 have hB_ := HBd.out.trans (hb.mono HBd.out.size)
 replace HBd := hI hB_
 try replace HF2 := hI (HF2.out.below hb rr)
 try replace HW1 := hI (HW1.out.below hb rr)
 clear hb hB_ hS
 have hS := HSB.out _ HBd.out
 refine hK' _ _ ⟨.inr hS, fun _ => ?_⟩
 clear hK' K'
 (try simp only [Act.put, nY, nX])
 (refine anyT_st 100 rfl (fun K' hK' => ?_); simp only [nY]; go_simp)
 refine (form29_c (some ⟨k18, 0, none⟩) 3 3 _).mono ?_
 rintro e w54 ⟨rfl, hb⟩
 have hB_ := HBd.out.trans (hb.mono HBd.out.size)
 replace HBd := hI hB_
 try replace HF2 := hI (HF2.out.below hb rr)
 try replace HW1 := hI (HW1.out.below hb rr)
 clear hb hB_ hS
 have hS := HSB.out _ HBd.out
 refine hK' _ _ ⟨.inr hS, fun _ => ?_⟩
 clear hK' K'
 (try simp only [Act.put, nY, nX])
 (refine anyT_st 101 rfl (fun K' hK' => ?_); simp only [nY]; go_simp)
 refine (r29Equal_c ⟨true, (Aw, nw, cw, [sA, s29B, sA])⟩ ⟨true, (some ⟨k18, 0, none⟩, 3, 3, [sA, s29B, sA])⟩ _ HF2.out HW1.out).mono ?_
 rintro e w55 ⟨rfl, hb⟩
 rw [show decide (FormR.data ⟨true, (Aw, nw, cw, [sA, s29B, sA])⟩ = FormR.data ⟨true, (some ⟨k18, 0, none⟩, 3, 3, [sA, s29B, sA])⟩) = true from decide_eq_true rfl]
 clear HW1 HF2
 have hB_ := HBd.out.trans (hb.mono HBd.out.size)
 replace HBd := hI hB_
 clear hb hB_ hS
 have hS := HSB.out _ HBd.out
 refine hK' _ _ ⟨.inr hS, fun _ => ?_⟩
 clear hK' K'
 (try simp only [Act.put, nY, nX])
 refine' anyT_tg 102 rfl hS ?_
 (try simp only [Act.put, nY, nX])
 (refine anyT_st 103 rfl (fun K' hK' => ?_); simp only [nY]; go_simp)
 refine hK' _ _ ⟨.inl (by as_aux_lemma => kernel_rfl), fun _ => anyT_done (by as_aux_lemma => kernel_rfl) ?_ _⟩
 clear hK' K' hS
 go_wp2
 go_ret
 exact ⟨rfl, HB.out.trans (HBd.out.mono HB.out.size)⟩
end Go.Proofs.YtlgliddhideflaaGreatDoor

/-
  derive.Idle.
-/
import Derived.Deep.DeepCutAuto
import Derived.Test.YtlgliddhideflaaGreatDoorXIdleM
import Derived.Test.YtlgliddhideflaaGreatDoorXCountsG
import Derived.Test.YtlgliddhideflaaGreatDoorXIdxPair
import Derived.Test.YtlgliddhideflaaGreatDoorXPairs1
import Derived.Test.YtlgliddhideflaaGreatDoorXConcL
set_option linter.all false
set_option maxRecDepth 100000
set_option maxHeartbeats 4000000
namespace Go.Proofs.YtlgliddhideflaaGreatDoor
open Go.RowKit Go.Shelf
theorem idle1_c (s : PairR) (br : Nat) (Ar : Option Addr) (nr cr : Nat) (rest : List LawR) (w : World) (hp : IsWord w s.p.1 s.p.2.1 s.p.2.2.1 s.p.2.2.2) (hq : IsWord w s.q.1 s.q.2.1 s.q.2.2.1 s.q.2.2.2)
  (hb : w.heap[br]? = some (.cells #[.slice Ar nr cr] 35 (0, 0))) (hr : IsLaws w Ar nr cr rest) (hT : TabOK w) (hn : s.p.2.1 ≤ 4096) :
  Calls Tryz.prog 81 #[pairV s, .pointer (some ⟨br, 0, none⟩)] w fun e w' => e = .returned (.bool (mattersM (lawsD rest) s.data)) ∧ Below w.heap.size w w' := by
 obtain ⟨⟨Ap, np, cp, x⟩, ⟨Aq, nq, cq, y⟩⟩ := s
 dsimp only at hp hq hn
 have hbl := lt_of_block hb
 have hc := cell_of_one hb
 have hbA : Below w.heap.size w (w.alloc (.cells #[.slice Ap np cp, .slice Aq nq cq] 52)) := (Below.refl _ _).alloc rr _
 have HP := hI (hp.below hbA rr); clear hp
 have HQ := hI (hq.below hbA rr); clear hq
 have HR := hI (hr.below hbA rr); clear hr
 have HT := hI (hT.below hbA rr); clear hT
 have HBA := hI hbA; clear hbA
 have HM : Hid (mattersM (lawsD rest) (PairR.data ⟨(Ap, np, cp, x), (Aq, nq, cq, y)⟩) = ((formsM (lawsD rest) x).1 != 0 || !decide (((formsM (lawsD rest) x).2.getLast?).getD [] = y))) := rfl
 clear hb
 go_enter Tryz.func81, Tryz.ntmps81
 simp only [pairV, Part.val]
 go_wp2_with fail
 refine (attempt_c Ar nr cr rest Ap np cp x _ HR.out HP.out HT.out hn).mono ?_
 rintro e w1 ⟨hb1, hor⟩
 have hs1 := hb1.size
 have hq1 := (hb1.cell (p := ⟨w.heap.size, 1, none⟩) (by simp)).trans (cell_new_at (v := .slice Aq nq cq) rfl)
 have HQ1 := hI (HQ.out.below hb1 rr); clear HQ
 have HB1 := hI (HBA.out.trans (hb1.mono HBA.out.size)); clear HBA
 simp only [World.size_alloc] at hs1
 clear hb1 hc
 rcases hor with ⟨h0, A1, n1, c1, z, hz, rfl, hw1, _⟩ | ⟨h0, rfl⟩
 ·have HM1 : Hid (mattersM (lawsD rest) (PairR.data ⟨(Ap, np, cp, x), (Aq, nq, cq, y)⟩) = !decide (z = y)) := by
   show _ = _; rw [HM.out, h0, hz]; rfl
  clear h0 hz
  have HW1 := hI hw1; clear hw1
  go_wp2_with fail
  refine (wEqual_c _ _ _ _ _ _ z y w1 HW1.out HQ1.out).mono ?_
  rintro e w2 ⟨rfl, hb2⟩
  have hB2 := HB1.out.trans (hb2.mono HB1.out.size)
  clear hb2 hq1
  go_wp2
  go_ret
  exact ⟨by rw [HM1.out]; rfl, hB2⟩
 ·have HM1 : Hid (mattersM (lawsD rest) (PairR.data ⟨(Ap, np, cp, x), (Aq, nq, cq, y)⟩) = true) := by
   show _ = _; rw [HM.out]; simp [h0]
  clear h0
  go_wp2
  go_ret
  exact ⟨by rw [HM1.out]; rfl, HB1.out⟩
theorem Cells.keep {S : Nat → Prop} {w w' : World} {A : Option Addr} {n c sz : Nat} {vs : List Value} (h : Cells w A n c sz vs) (hk : Keep S w w') (hS : 0 < n → ∀ ad, A = some ad → ¬ S ad.block) : Cells w' A n c sz vs := by
 obtain ⟨h1, h2, h3, h4, h5⟩ := h
 refine ⟨h1, h2, h3, h4, fun hn => ?_⟩
 obtain ⟨b, off, rfl, hlt, hc⟩ := h5 hn
 have hb := hk.block b hlt (hS hn _ rfl)
 exact ⟨b, off, rfl, Nat.lt_of_lt_of_le hlt hk.size, fun j v hv => (World.cell?_of_block hb).trans (hc j v hv)⟩
theorem IsLaws.setNew {w0 X : World} {A9 : Option Addr} {n9 c9 b : Nat} {v : Value} {ys : List LawR} (h : IsLaws X A9 n9 c9 ys) (hla : ∀ x ∈ ys, LawAt w0 x.l x.a) (hb : Below w0.heap.size w0 (X.setCell ⟨b, 0, none⟩ v))
  (hne : 0 < n9 → ∀ ad, A9 = some ad → ¬ ad.block = b) : IsLaws (X.setCell ⟨b, 0, none⟩ v) A9 n9 c9 ys :=
 ⟨⟨h.1.1.keep (S := fun k => k = b) ((Keep.refl (fun k => k = b) X).setCell (p := ⟨b, 0, none⟩) rfl v) hne, h.1.2⟩, fun x hx => (hla x hx).below hb rr⟩
theorem IsLaws.lt {X : World} {A9 : Option Addr} {n9 c9 : Nat} {ys : List LawR} (h : IsLaws X A9 n9 c9 ys) (hn : 0 < n9) {ad : Addr} (had : A9 = some ad) : ad.block < X.heap.size := by
 obtain ⟨b, off, rfl, hb, _⟩ := h.1.1.2.2.2.2 hn
 obtain rfl := Option.some.inj had
 exact hb
theorem idle_c (A : Option Addr) (n c : Nat) (xs : List LawR) (A' : Option Addr) (n' c' : Nat) (wss : List (List Snd)) (w : World) (hx : IsLaws w A n c xs) (hw : IsWords w A' n' c' wss) (hT : TabOK w) :
  Calls Tryz.prog 23 #[.slice A n c, .slice A' n' c'] w (RetNsE w (idleM (lawsD xs) wss)) := by
 have hmx := hx.max
 have hmw := hw.max
 have HX := hI hx; clear hx
 have HW := hI hw; clear hw
 have HT := hI hT; clear hT
 have HLN : Hid ((lawsD xs).length = n) := by show (lawsD xs).length = n; rw [lawsD, List.length_map]; exact HX.out.len
 go_enter Tryz.func23, Tryz.ntmps23
 go_wp2_with fail
 refine (pairs_c A n c xs A' n' c' wss w HX.out HW.out HT.out).mono ?_
 rintro e w1 ⟨A1, n1, c1, ss, rfl, hss, hp1, hB1⟩
 have HP1 := hI hp1; clear hp1
 have HB1 := hI hB1; clear hB1
 obtain ⟨er, her⟩ : ∃ er, er = (pairsM (lawsD xs) wss).1 := ⟨_, rfl⟩
 rw [← her]
 by_cases h0 : er = 0
 case neg =>
  have HM : Hid (idleM (lawsD xs) wss = (er, [])) := by show idleM _ _ = _; unfold idleM; rw [← her, if_pos h0]
  have h1 : (er != 0) = true := by simpa using h0
  clear hss her h0
  go_wp2
  go_ret2
  exact ⟨none, 0, 0, by rw [HM.out]; rfl, by rw [HM.out]; exact Cells.nil _ _, HB1.out⟩
 subst h0
 rcases counts_cases (lawsD xs) wss with ⟨er, h1, _, hp⟩ | ⟨hl0, hl64, hw256, _, hp, hall⟩
 ·rw [hp] at her; exact absurd her.symm h1
 rw [hp] at hss
 rw [HLN.out] at hl64
 have HM : Hid (idleM (lawsD xs) wss = (0, ((List.range n).filter (idleB (lawsD xs) (ss.map PairR.data))).map fun (k : Nat) => (k : Int))) := by show idleM _ _ = _; unfold idleM; rw [hp, if_neg (by simp), hss, HLN.out]
 have HLE : Hid (∀ s ∈ ss, s.p.2.1 ≤ 4096) := by
  show ∀ s ∈ ss, s.p.2.1 ≤ 4096
  intro s hs
  have h1 : s.data ∈ ss.map PairR.data := List.mem_map.2 ⟨s, hs, rfl⟩
  rw [hss] at h1
  obtain ⟨ws, h2, h3⟩ := List.mem_map.1 h1
  have h4 : ws = s.p.word := congrArg Prod.fst h3
  have h5 := (hall ws h2).1
  have h6 := (HP1.out.2 s hs).1.len
  unfold wcheck at h5
  rcases Nat.lt_or_ge 32 ws.length with h7 | h7
  ·rw [if_pos h7] at h5; exact absurd h5 (by decide)
  ·rw [h4] at h7; unfold Part.word at h7; omega
 clear hp hss her hall
 obtain ⟨p, hp⟩ : ∃ p : Nat → Bool, p = idleB (lawsD xs) (ss.map PairR.data) := ⟨_, rfl⟩
 rw [← hp] at HM
 have HPP := hI hp; clear hp
 have hB1s := HB1.out.size
 go_wp2
 go_loopw [8, 23] (fun v i wr => ∃ k q : Nat, i = .int .i64 k ∧ k ≤ n ∧ q ≤ k ∧ Hid (wr.ownsRow w1.heap.size 3 1 v q (ints ((List.range k).filter p))) ∧ Below w1.heap.size w1 wr) (fun _ i _ => n - (intOf i).toNat)
 case atStart => exact ⟨0, 0, rfl, Nat.zero_le _, rr, World.ownsRow_nil _ _ _ _, Below.refl _ _⟩
 case round =>
  obtain ⟨k, q, rfl, hk, hq, hown, hB⟩ := hrel
  have hBs := hB.size
  by_cases hlt : k < n
  ·have hi1 : (0 : Int) ≤ (k : Int) := by omega
   have hi2 : (k : Int) ≤ (c : Int) := by omega
   have hi3 : (k : Int) + 1 ≤ (n : Int) := by omega
   have hi4 : (k : Int) + 1 ≤ (c : Int) := by omega
   have hi5 : ((k : Int) + 1).toNat = k + 1 := by omega
   have hi6 : (0 : Int) ≤ (k : Int) + 1 := by omega
   have hi7 : IntKind.i64.wrap ((k : Int) + 1) = (k : Int) + 1 := IntWalk.i64_in _ (by omega)
   have hwr := HB1.out.trans (hB.mono HB1.out.size)
   have HWR := hI hwr; clear hwr
   go_upto_region 8 with fail
   go_cut [10] from 26 to 34 (fun s10 wx => ∃ (b10 : Nat) (A9 : Option Addr) (n9 c9 : Nat), s10 = .pointer (some ⟨b10, 0, none⟩) ∧ Hid (wx.heap[b10]? = some (.cells #[.slice A9 n9 c9] 35 (0, 0))) ∧ Hid (IsLaws wx A9 n9 c9 (xs.take k ++ xs.drop (k + 1))) ∧ Below wr.heap.size wr wx)
   case first =>
    refine plain_region (fun _ => True) (by kernel_rfl) trivial (fun hHeld => ?_)
    (refine' anyT_tk 0 rfl ?_; (try simp only [Act.put, nY, nX])); (refine' anyT_tk 1 rfl ?_; (try simp only [Act.put, nY, nX])); (refine' anyT_tk 2 rfl ?_; (try simp only [Act.put, nY, nX])); (refine' anyT_tk 3 rfl ?_; (try simp only [Act.put, nY, nX])); (refine' anyT_tk 4 rfl ?_; (try simp only [Act.put, nY, nX])); (refine' anyT_tk 5 rfl ?_; (try simp only [Act.put, nY, nX])); (refine' anyT_tk 6 rfl ?_; (try simp only [Act.put, nY, nX]))
    have hD0 : Below wr.heap.size wr wr.drew := bel
    have hZ0 : wr.drew.heap.size ≤ wr.heap.size := rr
    have hZ1 : wr.heap.size ≤ wr.drew.heap.size := rr
    generalize wr.drew = W0 at *
    obtain ⟨A8, hA8⟩ : ∃ A8, A8 = if c = k + 1 then A else Option.map (fun x => x.add ((k + 1) * 18)) A := ⟨_, rfl⟩
    rw [← hA8]
    have HCAT : Hid (∀ (X : World) (g : Nat), Below wr.heap.size wr X → Cells X (some ⟨g, 0, none⟩) 2 2 1 [.slice A k c, .slice A8 (n - (k + 1)) (c - (k + 1))] →
      Calls Tryz.prog 79 #[.slice (some ⟨g, 0, none⟩) 2 2] X (RetLaws X (xs.take k ++ xs.drop (k + 1)))) := by
     intro X g hX hc
     have hXX := HWR.out.trans (hX.mono HWR.out.size)
     have h1 := concatLaw_c (some ⟨g, 0, none⟩) 2 2 [(A, k, c, xs.take k), (A8, n - (k + 1), c - (k + 1), xs.drop (k + 1))] X hc (by
      intro p hp
      simp only [List.mem_cons, List.not_mem_nil, or_false] at hp
      rcases hp with rfl | rfl
      ·exact IsLaws.take (HX.out.below hXX rr) (show k ≤ n by omega)
      ·rw [hA8]; exact IsLaws.drop (HX.out.below hXX rr) (show k + 1 ≤ n by omega)) (by
      have := HX.out.len
      simp only [catL, List.flatMap_cons, List.flatMap_nil, List.append_nil, PartL.laws, List.length_append, List.length_take, List.length_drop]
      omega)
     simpa only [catL, List.flatMap_cons, List.flatMap_nil, List.append_nil, PartL.laws] using h1
    have HFIN : Hid (∀ (X : World) (b10 : Nat) (v : Value) (A9 : Option Addr) (n9 c9 : Nat), X.heap[b10]? = some (.cells #[v] 35 (0, 0)) ∧ wr.heap.size ≤ b10 ∧ Below wr.heap.size wr X ∧ IsLaws X A9 n9 c9 (xs.take k ++ xs.drop (k + 1)) ∧ (0 < n9 → ∀ ad, A9 = some ad → ¬ ad.block = b10) →
      ∃ (b10' : Nat) (A9' : Option Addr) (n9' c9' : Nat), Value.pointer (some ⟨b10, 0, none⟩) = .pointer (some ⟨b10', 0, none⟩) ∧ Hid ((X.setCell ⟨b10, 0, none⟩ (.slice A9 n9 c9)).heap[b10']? = some (.cells #[.slice A9' n9' c9'] 35 (0, 0))) ∧ Hid (IsLaws (X.setCell ⟨b10, 0, none⟩ (.slice A9 n9 c9)) A9' n9' c9' (xs.take k ++ xs.drop (k + 1))) ∧ Below wr.heap.size wr (X.setCell ⟨b10, 0, none⟩ (.slice A9 n9 c9))) := by
     rintro X b10 v A9 n9 c9 ⟨h1, h2, h3, h4, h5⟩
     have h6 : Below wr.heap.size wr (X.setCell ⟨b10, 0, none⟩ (.slice A9 n9 c9)) := h3.setCell (p := ⟨b10, 0, none⟩) (by simpa using h2) _
     refine ⟨b10, A9, n9, c9, rfl, one_setCell h1, h4.setNew (w0 := w) (fun x hx => ?_) (HWR.out.trans (h6.mono HWR.out.size)) h5, h6⟩
     rcases List.mem_append.1 hx with h | h
     ·exact HX.out.2 x (List.mem_of_mem_take h)
     ·exact HX.out.2 x (List.mem_of_mem_drop h)
    clear hA8
    refine anyT_two (i := 7) (j := 9) (by kernel_rfl) rfl rfl (fun K' hK' => ?_) (fun K' hK' => ?_)
    all_goals rw [if_pos (by rfl)]
    all_goals go_simp
    ·refine hK' _ _ ⟨.inr trivial, fun _ => ?_⟩
     clear hK' K'
     (try simp only [Act.put, nY, nX])
     have hX1 : Below wr.heap.size wr (W0.alloc (.cells #[.slice A k c, .slice A8 (n - (k + 1)) (c - (k + 1))] 35)) := hD0.alloc (by omega) _
     have hC1 : Cells (W0.alloc (.cells #[.slice A k c, .slice A8 (n - (k + 1)) (c - (k + 1))] 35)) (some ⟨W0.heap.size, 0, none⟩) 2 2 1 [.slice A k c, .slice A8 (n - (k + 1)) (c - (k + 1))] := ⟨rfl, rr, by unfold maxLen; omega, (fun h => by cases h), fun _ => ⟨W0.heap.size, 0, rfl, by simp, fun j v hv => by rw [Nat.zero_add]; exact cell_new_at (w := W0) (by simpa using hv)⟩⟩
     have hz1 : (W0.alloc (.cells #[.slice A k c, .slice A8 (n - (k + 1)) (c - (k + 1))] 35)).heap.size ≤ W0.heap.size + 1 ∧ W0.heap.size + 1 ≤ (W0.alloc (.cells #[.slice A k c, .slice A8 (n - (k + 1)) (c - (k + 1))] 35)).heap.size := by simp
     generalize (W0.alloc (.cells #[.slice A k c, .slice A8 (n - (k + 1)) (c - (k + 1))] 35)) = X1 at *
     have HC1 := hI hC1; clear hC1
     refine anyT_two (i := 8) (j := 9) (by kernel_rfl) rfl rfl (fun K' hK' => ?_) (fun K' hK' => ?_)
     all_goals rw [if_pos (by rfl)]
     all_goals go_simp
     ·refine (HCAT.out X1 _ hX1 HC1.out).mono ?_
      rintro e X2 ⟨A9, n9, c9, rfl, hl9, hb9, hf9⟩
      refine hK' _ _ ⟨.inr trivial, fun _ => ?_⟩
      clear hK' K'
      (try simp only [Act.put, nY, nX])
      have hs2 := hb9.size
      have hX2 := hX1.trans (hb9.mono hX1.size)
      (refine anyT_sp 9 rfl (fun K' hK' => ?_); simp only [nY]; go_simp)
      refine hK' _ _ ⟨.inr trivial, fun _ => ?_⟩
      clear hK' K'
      (try simp only [Act.put, nY, nX])
      (refine anyT_sp 10 rfl (fun K' hK' => ?_); simp only [nY]; go_simp)
      have hba : Below X2.heap.size X2 (X2.alloc (.cells #[.slice A9 n9 c9] 35)) := (Below.refl _ _).alloc rr _
      refine hK' _ _ ⟨.inl (by kernel_rfl), fun _ => anyT_done (by kernel_rfl) ?_ _⟩
      clear hK' K'
      go_wp2_with fail
      go_meet
      exact ⟨X2.heap.size, A9, n9, c9, rfl, heap_new_at rfl, hl9.below hba rr, hX2.trans (hba.mono hX2.size)⟩
     ·refine hK' _ _ ⟨.inr trivial, fun _ => ?_⟩
      clear hK' K'
      (try simp only [Act.put, nY, nX])
      have hba : Below X1.heap.size X1 (X1.alloc (.cells #[.slice none 0 0] 35)) := (Below.refl _ _).alloc rr _
      (refine anyT_sp 8 rfl (fun K' hK' => ?_); simp only [nY]; go_simp)
      refine (HCAT.out _ _ (hX1.trans (hba.mono hX1.size)) (HC1.out.below hba rr)).mono ?_
      rintro e X2 ⟨A9, n9, c9, rfl, hl9, hb9, hf9⟩
      have h10 := (hb9.block X1.heap.size (by simp)).trans (heap_new_at rfl)
      have hX2 := (hX1.trans (hba.mono hX1.size)).trans (hb9.mono (by simp; omega))
      refine hK' _ _ ⟨.inr trivial, fun _ => ?_⟩
      clear hK' K'
      (try simp only [Act.put, nY, nX])
      have c10 := cell_of_one h10
      have f10 := free_of_one h10
      (refine anyT_sp 10 rfl (fun K' hK' => ?_); simp only [nY]; go_simp)
      refine hK' _ _ ⟨.inl (by kernel_rfl), fun _ => anyT_done (by kernel_rfl) ?_ _⟩
      clear hK' K'
      go_wp2_with fail
      go_meet
      exact HFIN.out _ _ _ _ _ _ ⟨h10, by omega, hX2, hl9, fun hn ad had => by have := hf9 ad had; simp at this; omega⟩
    ·refine hK' _ _ ⟨.inr trivial, fun _ => ?_⟩
     clear hK' K'
     (try simp only [Act.put, nY, nX])
     have hX1 : Below wr.heap.size wr (W0.alloc (.cells #[.slice none 0 0] 35)) := hD0.alloc (by omega) _
     have h10 : (W0.alloc (.cells #[.slice none 0 0] 35)).heap[W0.heap.size]? = some (.cells #[.slice none 0 0] 35 (0, 0)) := heap_new_at rfl
     have hz1 : (W0.alloc (.cells #[.slice none 0 0] 35)).heap.size ≤ W0.heap.size + 1 ∧ W0.heap.size + 1 ≤ (W0.alloc (.cells #[.slice none 0 0] 35)).heap.size := by simp
     generalize (W0.alloc (.cells #[.slice none 0 0] 35)) = X1 at *
     (refine anyT_sp 7 rfl (fun K' hK' => ?_); simp only [nY]; go_simp)
     refine hK' _ _ ⟨.inr trivial, fun _ => ?_⟩
     clear hK' K'
     (try simp only [Act.put, nY, nX])
     have hba : Below X1.heap.size X1 (X1.alloc (.cells #[.slice A k c, .slice A8 (n - (k + 1)) (c - (k + 1))] 35)) := (Below.refl _ _).alloc rr _
     have hC1 : Cells (X1.alloc (.cells #[.slice A k c, .slice A8 (n - (k + 1)) (c - (k + 1))] 35)) (some ⟨X1.heap.size, 0, none⟩) 2 2 1 [.slice A k c, .slice A8 (n - (k + 1)) (c - (k + 1))] := ⟨rfl, rr, by unfold maxLen; omega, (fun h => by cases h), fun _ => ⟨X1.heap.size, 0, rfl, by simp, fun j v hv => by rw [Nat.zero_add]; exact cell_new_at (by simpa using hv)⟩⟩
     (refine anyT_sp 8 rfl (fun K' hK' => ?_); simp only [nY]; go_simp)
     refine (HCAT.out _ _ (hX1.trans (hba.mono hX1.size)) hC1).mono ?_
     rintro e X2 ⟨A9, n9, c9, rfl, hl9, hb9, hf9⟩
     have h11 := (hb9.block W0.heap.size (by simp; omega)).trans ((hba.block W0.heap.size (by omega)).trans h10)
     have hX2 := (hX1.trans (hba.mono hX1.size)).trans (hb9.mono (by simp; omega))
     refine hK' _ _ ⟨.inr trivial, fun _ => ?_⟩
     clear hK' K'
     (try simp only [Act.put, nY, nX])
     have c11 := cell_of_one h11
     have f11 := free_of_one h11
     (refine anyT_sp 10 rfl (fun K' hK' => ?_); simp only [nY]; go_simp)
     refine hK' _ _ ⟨.inl (by kernel_rfl), fun _ => anyT_done (by kernel_rfl) ?_ _⟩
     clear hK' K'
     go_wp2_with fail
     go_meet
     exact HFIN.out _ _ _ _ _ _ ⟨h11, by omega, hX2, hl9, fun hn ad had => by have := hf9 ad had; simp at this; omega⟩
   case rest =>
    obtain ⟨b10, A9, n9, c9, rfl, hb10, hl9, hb9⟩ := hcut
    have hB9 := hB.trans (hb9.mono hBs)
    have HB9 := hI (HWR.out.trans (hb9.mono HWR.out.size))
    go_wp2_with fail
    refine (anyPair_c A1 n1 c1 ss 81 #[.pointer (some ⟨b10, 0, none⟩)] (fun s => mattersM (lawsD (xs.take k ++ xs.drop (k + 1))) s.data) wc (HP1.out.below hB9 rr).1 (enters_of Tryz.func81 (by kernel_rfl) rfl) (fun W hW s hs =>
     idle1_c s b10 A9 n9 c9 _ W ((HP1.out.2 s hs).1.below (hB9.trans (hW.mono hB9.size)) rr) ((HP1.out.2 s hs).2.below (hB9.trans (hW.mono hB9.size)) rr) ((hW.block b10 (lt_of_block hb10.out)).trans hb10.out) (hl9.out.below hW rr) (HT.out.below (HB9.out.trans (hW.mono HB9.out.size)) rr) (HLE.out s hs))).mono ?_
    rintro e w5 ⟨rfl, hb5⟩
    have hB5 := hB9.trans (hb5.mono hB9.size)
    have hown5 : w5.ownsRow w1.heap.size 3 1 u8 q (ints ((List.range k).filter p)) := own_heap hown.out fun b e => by
     have h1 := (hown.out.lt b e).2
     exact (hb5.block b (Nat.lt_of_lt_of_le h1 hb9.size)).trans (hb9.block b h1)
    have hpk : p k = !ss.any (fun s => mattersM (lawsD (xs.take k ++ xs.drop (k + 1))) s.data) := by
     rw [HPP.out]
     unfold idleB without
     rw [List.any_map]
     have : lawsD (xs.take k ++ xs.drop (k + 1)) = (lawsD xs).take k ++ (lawsD xs).drop (k + 1) := by simp [lawsD, List.map_take, List.map_drop]
     rw [this]; rfl
    obtain ⟨d, hd⟩ : ∃ d, d = ss.any (fun s => mattersM (lawsD (xs.take k ++ xs.drop (k + 1))) s.data) := ⟨_, rfl⟩
    rw [← hd] at hpk ⊢
    have HPK := hI hpk; clear hpk hd
    have HOWN := hI hown5; clear hown5 hown
    have hq64 : q ≤ 64 := by omega
    have hB5s := hB5.size
    clear hb5 hb9 hB hl9 hb10
    cases d
    ·obtain ⟨A8, c8, hv8⟩ := own_form HOWN.out
     subst hv8
     go_wp2_with (at_builtin; refine append_int rfl (.tmp 40) (.tmp 42) rfl w1.heap.size (.slice A8 q c8) q (ints ((List.range k).filter p)) rfl ?ho ⟨w5.heap.size, 0, none⟩ 1 (.int .i64 k) rfl ?ha rfl ?hl ?hz ?hc)
     case ho => exact HOWN.out.alloc _
     case ha => exact cell_one_new _ _ _
     case hl => omega
     case hz => simp; omega
     case hc =>
      intro v' w6 hown6 hg6 _
      go_wp2
      go_roundw
      case rel =>
       refine ⟨k + 1, q + 1, by go_num, by omega, by omega, ?_, own_below (hB5.alloc hB5.size _) (HOWN.out.alloc _) hg6 rr (by simp; omega)⟩
       show w6.ownsRow _ _ _ _ _ _
       rw [List.range_succ, List.filter_append]
       have : ([k].filter p) = [k] := by simp [HPK.out]
       rw [this]
       simpa [ints] using hown6
      case measure => simp [intOf]; omega
    ·go_wp2
     go_roundw
     case rel =>
      refine ⟨k + 1, q, by go_num, by omega, by omega, ?_, hB5⟩
      show w5.ownsRow _ _ _ _ _ _
      rw [List.range_succ, List.filter_append]
      have : ([k].filter p) = [] := by simp [HPK.out]
      rw [this, List.append_nil]
      exact HOWN.out
     case measure => simp [intOf]; omega
  ·obtain rfl : k = n := by omega
   obtain ⟨A9, c9, hv9⟩ := own_form hown.out
   subst hv9
   go_wp2
   go_ret2
   refine ⟨A9, _, c9, by rw [HM.out]; rfl, ?_, HB1.out.trans (hB.mono HB1.out.size)⟩
   rw [HM.out]
   have := Cells.of_own hown.out (by decide)
   show Cells _ _ _ _ _ (List.map _ _)
   rw [List.map_map]
   exact this
end Go.Proofs.YtlgliddhideflaaGreatDoor

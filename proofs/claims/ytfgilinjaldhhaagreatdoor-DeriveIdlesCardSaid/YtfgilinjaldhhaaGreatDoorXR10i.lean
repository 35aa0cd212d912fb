/-
  ablautref10.Idle.
-/
import Derived.Test.YtfgilinjaldhhaaGreatDoorXR10h
set_option linter.unusedVariables false
set_option linter.unusedSimpArgs false
set_option maxRecDepth 100000
set_option maxHeartbeats 4000000
namespace Go.Proofs.YtfgilinjaldhhaaGreatDoor
open Go.RowKit Go.Shelf
theorem lawsD_without (xs : List LawR) (k : Nat) : lawsD (xs.take k ++ xs.drop (k + 1)) = without (lawsD xs) k := by
 unfold without; simp [lawsD, List.map_take, List.map_drop]
theorem r10Idle_c (A : Option Addr) (n c : Nat) (xs : List LawR) (A' : Option Addr) (n' c' : Nat) (wss : List (List Snd)) (w : World) (hx : IsLaws w A n c xs) (hw : IsWords w A' n' c' wss) (hu : LawsU xs) (hwu : ∀ x ∈ wss, WordU x) :
  Calls Tryz.prog 36 #[.slice A n c, .slice A' n' c'] w (RetNsE w (idleM (lawsD xs) wss)) := by
 have hmx := hx.max
 have hmw := hw.max
 have HX := hI hx; clear hx
 have HW := hI hw; clear hw
 have HU := hI hu; clear hu
 have HWU := hI hwu; clear hwu
 have HLN : Hid ((lawsD xs).length = n) := by show (lawsD xs).length = n; rw [lawsD, List.length_map]; exact HX.out.len
 go_enter Tryz.func36, Tryz.ntmps36
 go_wp2_with fail
 refine (r10Pairs_c A n c xs A' n' c' wss w HX.out HW.out HU.out HWU.out).mono ?_
 rintro e w1 ⟨A1, n1, c1, ss, rfl, hss, hp1, hB1⟩
 have HP1 := hI hp1; clear hp1
 have HB1 := hI hB1; clear hB1
 rcases counts_cases (lawsD xs) wss with ⟨er, h1, _, hp⟩ | ⟨hl0, hl64, hw256, _, hp, hall⟩
 ·have HM : Hid (idleM (lawsD xs) wss = (er, [])) := by show idleM _ _ = _; unfold idleM; rw [hp, if_pos h1]
  rw [hp] at hss ⊢
  have h2 : (er != 0) = true := by simpa using h1
  clear hss hp h1 HP1
  go_wp2
  go_ret2
  exact ⟨none, 0, 0, by rw [HM.out]; rfl, by rw [HM.out]; exact Cells.nil _ _, HB1.out⟩
 rw [hp] at hss ⊢
 rw [HLN.out] at hl64
 have HM : Hid (idleM (lawsD xs) wss = (0, ((List.range n).filter (fun k => wss.all (sameB (lawsD xs) k))).map fun (k : Nat) => (k : Int))) := by
  show idleM _ _ = _
  unfold idleM
  rw [hp, if_neg (by simp), HLN.out]
  have : idleB (lawsD xs) (wss.map fun ws => (ws, (endM (lawsD xs) ws).2)) = fun k => wss.all (sameB (lawsD xs) k) := funext fun k => idleB_all hl0 fun ws h => (hall ws h).1
  rw [this]
 obtain rfl : n1 = n' := by have h1 := congrArg List.length hss; have h2 := HP1.out.1.2; have h3 := HW.out.len; simp only [List.length_map] at h1; omega
 have HSS := hI hss
 have HALL := hI hall
 have HL0 := hI hl0
 clear hp hss hall hl0
 obtain ⟨p, hp⟩ : ∃ p : Nat → Bool, p = fun k => wss.all (sameB (lawsD xs) k) := ⟨_, rfl⟩
 rw [← hp] at HM
 have HPP := hI hp; clear hp
 have hB1s := HB1.out.size
 go_wp2
 go_loopw [8, 9] (fun v i wr => ∃ k q : Nat, i = .int .i64 k ∧ k ≤ n ∧ q ≤ k ∧ Hid (wr.ownsRow w1.heap.size 3 1 v q (ints ((List.range k).filter p))) ∧ Below w1.heap.size w1 wr) (fun _ i _ => n - (intOf i).toNat)
 case atStart => exact ⟨0, 0, rfl, Nat.zero_le _, rr, World.ownsRow_nil _ _ _ _, Below.refl _ _⟩
 case round =>
  obtain ⟨k, q, rfl, hk, hq, hown, hB⟩ := hrel
  have hBs := hB.size
  by_cases hlt : k < n
  ·have hk1 : (k : Int) < (n : Int) := by omega
   have HBW := hI (HB1.out.trans (hB.mono HB1.out.size))
   obtain ⟨wo, hwo⟩ : ∃ wo, wo = wr := ⟨_, rfl⟩
   subst hwo
   go_wp2_with fail
   go_loopw [10, 11] (fun v i wr => ∃ (j : Nat) (d : Bool), v = .bool d ∧ i = .int .i64 j ∧ j ≤ n1 ∧ Hid (d = (wss.take j).all (sameB (lawsD xs) k)) ∧ Below wo.heap.size wo wr) (fun _ i _ => n1 - (intOf i).toNat)
   case atStart => exact ⟨0, true, rfl, rfl, Nat.zero_le _, rfl, Below.refl _ _⟩
   case round =>
    obtain ⟨j, d, rfl, rfl, hj, hd, hBr⟩ := hrel
    have hBrs := hBr.size
    have HOWNr : Hid (wr.ownsRow w1.heap.size 3 1 u8 q (ints ((List.range k).filter p))) := own_heap hown.out fun b e => hBr.block b (hown.out.lt b e).2
    by_cases hjl : j < n1 ∧ d = true
    ·obtain ⟨hjl, rfl⟩ := hjl
     have HBWr := hI (HBW.out.trans (hBr.mono HBW.out.size))
     obtain ⟨b, off, A2, n2, c2, ws, rfl, hb, hcw, hwk, hws⟩ := (HW.out.below HBWr.out rr).at_ hjl
     have hmem := List.mem_of_getElem? hwk
     have HWU1 : Hid (WordU ws) := HWU.out ws hmem
     have HSNOC : Hid ((wss.take (j + 1)).all (sameB (lawsD xs) k) = sameB (lawsD xs) k ws) := by show _ = _; rw [take_snoc' _ _ _ hwk, List.all_append, ← hd.out]; simp
     obtain ⟨s, hs⟩ : ∃ s, ss[j]? = some s := ⟨ss[j]'(by rw [HP1.out.1.2]; exact hjl), List.getElem?_eq_getElem _⟩
     have hsd : s.data = (ws, (endM (lawsD xs) ws).2) := by
      have h1 := congrArg (fun l => l[j]?) HSS.out
      simp only [List.getElem?_map, hs, hwk, Option.map_some] at h1
      exact Option.some.inj h1
     obtain ⟨bp, op, hA1, hbp, hcp, hcq⟩ := HP1.out.at2 hs
     have hwq := (HP1.out.2 _ (List.mem_of_getElem? hs)).2
     clear hs
     obtain ⟨⟨Ap, np, cp, x⟩, ⟨Aq, nq, cq, y⟩⟩ := s
     have hsd2 : y = (endM (lawsD xs) ws).2 := congrArg Prod.snd hsd
     have HY := hI hsd2
     clear hsd hsd2 hcp hwk hmem
     subst hA1
     have hB1r := hB.trans (hBr.mono hBs)
     have HWQ : Hid (IsWord wr Aq nq cq y) := hwq.below hB1r rr
     have hcq' : wr.cell? ⟨bp, op + j * 2 + 1, none⟩ = some (.slice Aq nq cq) := (hB1r.cell (p := ⟨bp, op + j * 2 + 1, none⟩) hbp).trans hcq
     have HCQ := hI hcq'
     have hbp' : bp < wr.heap.size := Nat.lt_of_lt_of_le hbp hB1r.size
     clear hwq hcq hcq' hbp
     have HWS := hI hws; clear hws
     have hj1 : (j : Int) < (n1 : Int) := by omega
     go_wp2
     refine plain_region (fun W' => W'.cell? ⟨b, off + j, none⟩ = some (.slice A2 n2 c2)) (by kernel_rfl) hcw (fun hHeld => ?_)
     (refine' anyT_tk 0 rfl ?_; (try simp only [Act.put, nA, nB, nC, nD, nE, nF])); (refine' anyT_tk 1 rfl ?_; (try simp only [Act.put, nA, nB, nC, nD, nE, nF])); (refine' anyT_tk 3 rfl ?_; (try simp only [Act.put, nA, nB, nC, nD, nE, nF])); (refine' anyT_tk 4 rfl ?_; (try simp only [Act.put, nA, nB, nC, nD, nE, nF])); (refine' anyT_tk 5 rfl ?_; (try simp only [Act.put, nA, nB, nC, nD, nE, nF])); (refine' anyT_tk 6 rfl ?_; (try simp only [Act.put, nA, nB, nC, nD, nE, nF]))
     (refine anyT_step (i := 2) (by kernel_rfl) rfl (fun K' hK' => ?_); simp only [List.getElem_toArray, List.getElem_cons_zero, List.getElem_cons_succ]; go_simp)
     have hd0 : Below wr.heap.size wr wr.drew := (Below.refl wr.heap.size wr).drew
     have HBd := hI (HBWr.out.trans (hd0.mono HBWr.out.size))
     refine (r10Without_c A n c xs k _ (HX.out.below HBd.out rr) (by omega) (by omega)).mono ?_
     rintro e w5 ⟨A5, n5, c5, rfl, hl5, hb5', _⟩
     have hb5 : Below wr.heap.size wr w5 := hd0.trans hb5'
     have hcw5 := (hb5.cell (p := ⟨b, off + j, none⟩) hb).trans hcw
     refine hK' _ _ ⟨.inr hcw5, fun _ => ?_⟩
     clear hK' K' hHeld hb5' hd0
     have HL5 := hI hl5; clear hl5
     (try simp only [Act.put, nA, nB, nC, nD, nE, nF])
     (refine anyT_step (i := 7) (by kernel_rfl) rfl (fun K' hK' => ?_); simp only [List.getElem_toArray, List.getElem_cons_zero, List.getElem_cons_succ]; go_simp)
     have hu5 : LawsU (xs.take k ++ xs.drop (k + 1)) := fun x hx => by
      rcases List.mem_append.1 hx with h | h
      ·exact HU.out x (List.mem_of_mem_take h)
      ·exact HU.out x (List.mem_of_mem_drop h)
     refine (r10DeriveF_c A5 n5 c5 _ A2 n2 c2 ws w5 HL5.out (HWS.out.below hb5 rr) hu5 HWU1.out).mono ?_
     rw [lawsD_without]
     obtain ⟨fa, hfa⟩ : ∃ fa, fa = deriveM (without (lawsD xs) k) ws := ⟨_, rfl⟩
     rw [← hfa]
     rintro e w6 ⟨A6, n6, c6, rfl, hw6, hb6', _⟩
     have HS6 : Hid (sameB (lawsD xs) k ws = (fa.1 == 0 && decide (fa.2 = y))) := by show _ = _; unfold sameB; rw [← hfa, HY.out]
     have hb6 : Below wr.heap.size wr w6 := hb5.trans (hb6'.mono hb5.size)
     have hcw6 := (hb6.cell (p := ⟨b, off + j, none⟩) hb).trans hcw
     refine hK' _ _ ⟨.inr hcw6, fun _ => ?_⟩
     clear hK' K' hcw5 hcw hfa hu5 HL5 hb6'
     have HW6 := hI hw6; clear hw6
     have hcq6 := (hb6.cell (p := ⟨bp, op + j * 2 + 1, none⟩) hbp').trans HCQ.out
     have HWQ6 := hI (HWQ.out.below hb6 rr)
     have hB6 : Below wo.heap.size wo w6 := hBr.trans (hb6.mono hBrs)
     have hbp6 : bp < w6.heap.size := Nat.lt_of_lt_of_le hbp' hb6.size
     clear hb5 hb6 HWQ HCQ
     (try simp only [Act.put, nA, nB, nC, nD, nE, nF])
     (refine' anyT_tk 8 rfl ?_; (try simp only [Act.put, nA, nB, nC, nD, nE, nF])); (refine' anyT_tk 9 rfl ?_; (try simp only [Act.put, nA, nB, nC, nD, nE, nF])); (refine' anyT_tk 10 rfl ?_; (try simp only [Act.put, nA, nB, nC, nD, nE, nF])); (refine' anyT_tk 11 rfl ?_; (try simp only [Act.put, nA, nB, nC, nD, nE, nF]))
     (refine anyT_step (i := 12) (by kernel_rfl) rfl (fun K' hK' => ?_); simp only [List.getElem_toArray, List.getElem_cons_zero, List.getElem_cons_succ]; go_simp)
     refine hK' _ _ ⟨.inl (by kernel_rfl), fun _ => anyT_done (by kernel_rfl) ?_ _⟩
     clear hK' K' hcw6
     by_cases h0 : fa.1 = 0
     ·have h1 : (fa.1 == 0) = true := by simpa using h0
      have HS7 : Hid (sameB (lawsD xs) k ws = decide (fa.2 = y)) := by show _ = _; rw [HS6.out, h1]; rfl
      clear h0
      go_wp2_with fail
      refine (rEqual_c A6 Aq n6 nq c6 cq fa.2 y w6 HW6.out HWQ6.out).mono ?_
      rintro e w7 ⟨rfl, hb7⟩
      have hB7 := hB6.trans (hb7.mono hB6.size)
      clear hb7 hcq6
      go_wp2
      go_roundw
      case rel => exact ⟨j + 1, _, rfl, by go_num, by omega, (by show _ = _; rw [HSNOC.out, HS7.out]), hB7⟩
      case measure => simp [intOf]; omega
     ·have h1 : (fa.1 == 0) = false := by simpa using h0
      have HS7 : Hid (sameB (lawsD xs) k ws = false) := by show _ = _; rw [HS6.out, h1]; rfl
      clear h0
      go_wp2
      go_roundw
      case rel => exact ⟨j + 1, false, rfl, by go_num, by omega, (by show _ = _; rw [HSNOC.out, HS7.out]), hB6⟩
      case measure => simp [intOf]; omega
    ·have hpk : p k = d := by
      rw [HPP.out]
      show wss.all (sameB (lawsD xs) k) = d
      cases d with
      | false =>
       have h1 := hd.out.symm
       cases h2 : wss.all (sameB (lawsD xs) k) with
       | false => rfl
       | true =>
        rw [List.all_eq_true] at h2
        have h3 : (wss.take j).all (sameB (lawsD xs) k) = true := List.all_eq_true.2 fun x hx => h2 x (List.mem_of_mem_take hx)
        rw [h3] at h1; cases h1
      | true =>
       have hjn : j = n1 := by have : ¬ j < n1 := fun h => hjl ⟨h, rfl⟩
                               omega
       have h1 := hd.out.symm
       rwa [List.take_of_length_le (by rw [HW.out.len, hjn]; exact rr)] at h1
     have HPK := hI hpk; clear hpk
     have hB5 := hB.trans (hBr.mono hBs)
     have hq64 : q ≤ 64 := by omega
     have hB5s := hB5.size
     have hz : w1.heap.size ≤ wr.heap.size := hB5s
     cases d
     ·clear hjl
      by_cases hjn : j < n1
      ·have hj1 : (j : Int) < (n1 : Int) := by omega
       go_wp2
       go_roundw
       case rel =>
        refine ⟨k + 1, q, by go_num, by omega, by omega, ?_, hB5⟩
        show wr.ownsRow _ _ _ _ _ _
        rw [List.range_succ, List.filter_append]
        have : ([k].filter p) = [] := by simp [HPK.out]
        rw [this, List.append_nil]
        exact HOWNr.out
       case measure => simp [intOf]; omega
      ·have hj1 : ¬ (j : Int) < (n1 : Int) := by omega
       go_wp2
       go_roundw
       case rel =>
        refine ⟨k + 1, q, by go_num, by omega, by omega, ?_, hB5⟩
        show wr.ownsRow _ _ _ _ _ _
        rw [List.range_succ, List.filter_append]
        have : ([k].filter p) = [] := by simp [HPK.out]
        rw [this, List.append_nil]
        exact HOWNr.out
       case measure => simp [intOf]; omega
     ·have hjn : ¬ j < n1 := fun h => hjl ⟨h, rfl⟩
      have hj1 : ¬ (j : Int) < (n1 : Int) := by omega
      clear hjl
      obtain ⟨A8, c8, hv8⟩ := own_form HOWNr.out
      subst hv8
      go_wp2_with (at_builtin; refine append_int rfl (.tmp 61) (.tmp 63) rfl w1.heap.size (.slice A8 q c8) q (ints ((List.range k).filter p)) rfl ?ho ⟨wr.heap.size, 0, none⟩ 1 (.int .i64 k) rfl (cell_one_new _ _ _) rfl ?hl ?hz ?hc)
      case ho => exact HOWNr.out.alloc _
      case hl => omega
      case hz => first | omega | (simp; omega)
      case hc =>
       intro v' w6 hown6 hg6 _
       go_wp2
       go_roundw
       case rel =>
        refine ⟨k + 1, q + 1, by go_num, by omega, by omega, ?_, own_below (hB5.alloc hB5.size _) (HOWNr.out.alloc _) hg6 rr (by simp; omega)⟩
        show w6.ownsRow _ _ _ _ _ _
        rw [List.range_succ, List.filter_append]
        have : ([k].filter p) = [k] := by simp [HPK.out]
        rw [this]
        simpa [ints] using hown6
       case measure => simp [intOf]; omega
  ·obtain rfl : k = n := by omega
   obtain ⟨A9, c9, hv9⟩ := own_form hown.out
   subst hv9
   go_wp2
   go_ret2
   refine ⟨A9, _, c9, by rw [HM.out]; rfl, ?_, HB1.out.trans (hB.mono HB1.out.size)⟩
   rw [HM.out]
   have := Cells.of_own hown.out (by decide)
   show Cells _ _ _ _ _ (List.map _ _)
   rw [List.map_map]
   exact this
end Go.Proofs.YtfgilinjaldhhaaGreatDoor

/-
  ablautref10: SamePairs (of equal pairs), Steps.
-/
import Derived.Test.YtfgilinjaldhhaaGreatDoorXR10f
import Derived.Test.YtfgilinjaldhhaaGreatDoorXSteps1
import Derived.Test.YtfgilinjaldhhaaGreatDoorG15
set_option linter.unusedVariables false
set_option linter.unusedSimpArgs false
set_option maxRecDepth 100000
set_option maxHeartbeats 4000000
namespace Go.Proofs.YtfgilinjaldhhaaGreatDoor
open Go.RowKit Go.Shelf
theorem IsPairs.at2 {w : World} {A : Option Addr} {n c : Nat} {ss : List PairR} (h : IsPairs w A n c ss) {k : Nat} {s : PairR} (hs : ss[k]? = some s) :
  ∃ b off, A = some ⟨b, off, none⟩ ∧ b < w.heap.size ∧ w.cell? ⟨b, off + k * 2, none⟩ = some s.p.val ∧ w.cell? ⟨b, off + k * 2 + 1, none⟩ = some s.q.val := by
 obtain ⟨b, off, hA, hb, hc⟩ := h.1.at_ PairR.len (by decide) hs
 exact ⟨b, off, hA, hb, hc 0 _ rfl, hc 1 _ rfl⟩
theorem IsPairs.max {w : World} {A : Option Addr} {n c : Nat} {ss : List PairR} (h : IsPairs w A n c ss) : n ≤ c ∧ c ≤ 9223372036854775807 := by
 have h1 := h.1.1.2.1; have h2 := h.1.1.2.2.1; unfold maxLen at h2; exact ⟨h1, h2⟩
theorem r10SamePairs_c (A A' : Option Addr) (n n' c c' : Nat) (ss tt : List PairR) (w : World) (hx : IsPairs w A n c ss) (hy : IsPairs w A' n' c' tt) (he : ss.map PairR.data = tt.map PairR.data) :
  Calls Tryz.prog 31 #[.slice A n c, .slice A' n' c'] w fun e w' => e = .returned (.bool true) ∧ Below w.heap.size w w' := by
 have hm := hx.max
 have hm' := hy.max
 have hl1 : ss.length = n := hx.1.2
 have hl2 : tt.length = n' := hy.1.2
 obtain rfl : n = n' := by have h := congrArg List.length he; simp only [List.length_map] at h; omega
 have HX := hI hx; clear hx
 have HY := hI hy; clear hy
 have HE := hI he; clear he
 have HL1 := hI hl1; clear hl1
 have HL2 := hI hl2; clear hl2
 go_enter Tryz.func31, Tryz.ntmps31
 go_wp2
 go_loopw [5] (fun i wr => ∃ k : Nat, k ≤ n ∧ i = .int .i64 k ∧ Below w.heap.size w wr) (fun i _ => n - (intOf i).toNat)
 case atStart => exact ⟨0, Nat.zero_le _, rfl, Below.refl _ _⟩
 case round =>
  obtain ⟨k, hk, rfl, hB⟩ := hrel
  have hBs := hB.size
  by_cases hlt : k < n
  ·obtain ⟨s, hs⟩ : ∃ s, ss[k]? = some s := ⟨ss[k]'(by rw [HL1.out]; exact hlt), List.getElem?_eq_getElem _⟩
   obtain ⟨t, ht⟩ : ∃ t, tt[k]? = some t := ⟨tt[k]'(by rw [HL2.out]; exact hlt), List.getElem?_eq_getElem _⟩
   have hst : s.data = t.data := by
    have h := congrArg (fun l => l[k]?) HE.out
    simp only [List.getElem?_map, hs, ht, Option.map_some] at h
    exact Option.some.inj h
   obtain ⟨b1, o1, rfl, hb1, hp1, hq1⟩ := (HX.out.below hB rr).at2 hs
   obtain ⟨b2, o2, rfl, hb2, hp2, hq2⟩ := (HY.out.below hB rr).at2 ht
   obtain ⟨hwp1, hwq1⟩ := (HX.out.below hB rr).2 _ (List.mem_of_getElem? hs)
   obtain ⟨hwp2, hwq2⟩ := (HY.out.below hB rr).2 _ (List.mem_of_getElem? ht)
   clear hs ht
   obtain ⟨⟨Ap, np, cp, x⟩, ⟨Aq, nq, cq, y⟩⟩ := s
   obtain ⟨⟨Ar, nr, cr, x'⟩, ⟨As, ns, cs, y'⟩⟩ := t
   obtain rfl : x = x' := congrArg Prod.fst hst
   obtain rfl : y = y' := congrArg Prod.snd hst
   clear hst
   have HP1 : Hid (IsWord wr Ap np cp x) := hwp1
   have HQ1 : Hid (IsWord wr Aq nq cq y) := hwq1
   have HP2 : Hid (IsWord wr Ar nr cr x) := hwp2
   have HQ2 : Hid (IsWord wr As ns cs y) := hwq2
   have hp1' : wr.cell? ⟨b1, o1 + k * 2, none⟩ = some (.slice Ap np cp) := hp1
   have hq1' : wr.cell? ⟨b1, o1 + k * 2 + 1, none⟩ = some (.slice Aq nq cq) := hq1
   have hp2' : wr.cell? ⟨b2, o2 + k * 2, none⟩ = some (.slice Ar nr cr) := hp2
   have hq2' : wr.cell? ⟨b2, o2 + k * 2 + 1, none⟩ = some (.slice As ns cs) := hq2
   clear hwp1 hwq1 hwp2 hwq2 hp1 hq1 hp2 hq2
   have hkn : (k : Int) < (n : Int) := by omega
   go_wp2
   refine plain_region (fun W' => W'.cell? ⟨b1, o1 + k * 2, none⟩ = some (.slice Ap np cp) ∧ W'.cell? ⟨b1, o1 + k * 2 + 1, none⟩ = some (.slice Aq nq cq) ∧ W'.cell? ⟨b2, o2 + k * 2, none⟩ = some (.slice Ar nr cr) ∧ W'.cell? ⟨b2, o2 + k * 2 + 1, none⟩ = some (.slice As ns cs)) (by kernel_rfl) ⟨hp1', hq1', hp2', hq2'⟩ (fun hHeld => ?_)
   (refine' anyT_tk 0 rfl ?_; (try simp only [Act.put, nA, nB, nC, nD, nE, nF])); (refine' anyT_tk 1 rfl ?_; (try simp only [Act.put, nA, nB, nC, nD, nE, nF])); (refine' anyT_tk 2 rfl ?_; (try simp only [Act.put, nA, nB, nC, nD, nE, nF])); (refine' anyT_tk 3 rfl ?_; (try simp only [Act.put, nA, nB, nC, nD, nE, nF])); (refine' anyT_tk 4 rfl ?_; (try simp only [Act.put, nA, nB, nC, nD, nE, nF])); (refine' anyT_tk 5 rfl ?_; (try simp only [Act.put, nA, nB, nC, nD, nE, nF])); (refine' anyT_tk 6 rfl ?_; (try simp only [Act.put, nA, nB, nC, nD, nE, nF])); (refine' anyT_tk 7 rfl ?_; (try simp only [Act.put, nA, nB, nC, nD, nE, nF])); (refine' anyT_tk 8 rfl ?_; (try simp only [Act.put, nA, nB, nC, nD, nE, nF])); (refine' anyT_tk 9 rfl ?_; (try simp only [Act.put, nA, nB, nC, nD, nE, nF]))
   (refine anyT_step (i := 10) (by kernel_rfl) rfl (fun K' hK' => ?_); simp only [List.getElem_toArray, List.getElem_cons_zero, List.getElem_cons_succ]; go_simp)
   refine (rEqual_c Ap Ar np nr cp cr x x _ (HP1.out.below (B := wr.heap.size) ((Below.refl wr.heap.size wr).drew) rr) (HP2.out.below (B := wr.heap.size) ((Below.refl wr.heap.size wr).drew) rr)).mono ?_
   rintro e w7 ⟨rfl, hb7'⟩
   have hb7 : Below wr.heap.size wr w7 := (Below.refl wr.heap.size wr).drew.trans hb7'
   have hS7 : w7.cell? ⟨b1, o1 + k * 2, none⟩ = some (.slice Ap np cp) ∧ w7.cell? ⟨b1, o1 + k * 2 + 1, none⟩ = some (.slice Aq nq cq) ∧ w7.cell? ⟨b2, o2 + k * 2, none⟩ = some (.slice Ar nr cr) ∧ w7.cell? ⟨b2, o2 + k * 2 + 1, none⟩ = some (.slice As ns cs) :=
    ⟨(hb7.cell (p := ⟨b1, _, none⟩) hb1).trans hp1', (hb7.cell (p := ⟨b1, _, none⟩) hb1).trans hq1', (hb7.cell (p := ⟨b2, _, none⟩) hb2).trans hp2', (hb7.cell (p := ⟨b2, _, none⟩) hb2).trans hq2'⟩
   rw [show decide (x = x) = true from decide_eq_true rfl]
   refine hK' _ _ ⟨.inr hS7, fun _ => ?_⟩
   clear hK' K' hb7' hHeld hp1' hq1' hp2' hq2'
   have HQ17 := hI (HQ1.out.below hb7 rr)
   have HQ27 := hI (HQ2.out.below hb7 rr)
   have hB7 : Below w.heap.size w w7 := hB.trans (hb7.mono hBs)
   have hb17 : b1 < w7.heap.size := Nat.lt_of_lt_of_le hb1 hb7.size
   have hb27 : b2 < w7.heap.size := Nat.lt_of_lt_of_le hb2 hb7.size
   clear HP1 HP2 HQ1 HQ2 hb7
   (try simp only [Act.put, nA, nB, nC, nD, nE, nF])
   (refine' anyT_tk 11 rfl ?_; (try simp only [Act.put, nA, nB, nC, nD, nE, nF])); (refine' anyT_tk 12 rfl ?_; (try simp only [Act.put, nA, nB, nC, nD, nE, nF])); (refine' anyT_tk 13 rfl ?_; (try simp only [Act.put, nA, nB, nC, nD, nE, nF])); (refine' anyT_tk 14 rfl ?_; (try simp only [Act.put, nA, nB, nC, nD, nE, nF])); (refine' anyT_tk 15 rfl ?_; (try simp only [Act.put, nA, nB, nC, nD, nE, nF])); (refine' anyT_tk 16 rfl ?_; (try simp only [Act.put, nA, nB, nC, nD, nE, nF])); (refine' anyT_tk 17 rfl ?_; (try simp only [Act.put, nA, nB, nC, nD, nE, nF])); (refine' anyT_tk 18 rfl ?_; (try simp only [Act.put, nA, nB, nC, nD, nE, nF])); (refine' anyT_tk 19 rfl ?_; (try simp only [Act.put, nA, nB, nC, nD, nE, nF])); (refine' anyT_tk 20 rfl ?_; (try simp only [Act.put, nA, nB, nC, nD, nE, nF])); (refine' anyT_tk 21 rfl ?_; (try simp only [Act.put, nA, nB, nC, nD, nE, nF])); (refine' anyT_tk 22 rfl ?_; (try simp only [Act.put, nA, nB, nC, nD, nE, nF]))
   (refine anyT_step (i := 23) (by kernel_rfl) rfl (fun K' hK' => ?_); simp only [List.getElem_toArray, List.getElem_cons_zero, List.getElem_cons_succ]; go_simp)
   refine (rEqual_c Aq As nq ns cq cs y y w7 HQ17.out HQ27.out).mono ?_
   rintro e w8 ⟨rfl, hb8⟩
   rw [show decide (y = y) = true from decide_eq_true rfl]
   have hS8 : w8.cell? ⟨b1, o1 + k * 2, none⟩ = some (.slice Ap np cp) ∧ w8.cell? ⟨b1, o1 + k * 2 + 1, none⟩ = some (.slice Aq nq cq) ∧ w8.cell? ⟨b2, o2 + k * 2, none⟩ = some (.slice Ar nr cr) ∧ w8.cell? ⟨b2, o2 + k * 2 + 1, none⟩ = some (.slice As ns cs) :=
    ⟨(hb8.cell (p := ⟨b1, _, none⟩) hb17).trans hS7.1, (hb8.cell (p := ⟨b1, _, none⟩) hb17).trans hS7.2.1, (hb8.cell (p := ⟨b2, _, none⟩) hb27).trans hS7.2.2.1, (hb8.cell (p := ⟨b2, _, none⟩) hb27).trans hS7.2.2.2⟩
   refine hK' _ _ ⟨.inr hS8, fun _ => ?_⟩
   clear hK' K' hS7 HQ17 HQ27
   have hB8 : Below w.heap.size w w8 := hB7.trans (hb8.mono hB7.size)
   clear hb8 hB7
   (try simp only [Act.put, nA, nB, nC, nD, nE, nF])
   (refine' anyT_tk 24 rfl ?_; (try simp only [Act.put, nA, nB, nC, nD, nE, nF]))
   (refine anyT_step (i := 25) (by kernel_rfl) rfl (fun K' hK' => ?_); simp only [List.getElem_toArray, List.getElem_cons_zero, List.getElem_cons_succ]; go_simp)
   refine hK' _ _ ⟨.inl (by kernel_rfl), fun _ => anyT_done (by kernel_rfl) ?_ _⟩
   clear hK' K' hS8
   go_wp2
   go_roundw
   case rel => exact ⟨k + 1, by omega, by go_num, hB8⟩
   case measure => simp [intOf]; omega
  ·obtain rfl : k = n := by omega
   go_wp2
   go_ret
   exact ⟨rfl, hB⟩
theorem Away.old {v : Value} {w0 w : World} {p : Part} (h : IsWord w0 p.1 p.2.1 p.2.2.1 p.2.2.2) (hb : Below w0.heap.size w0 w) (hv : ∀ k, v.ownBlock = some k → w0.heap.size ≤ k) : Away v w p :=
 ⟨h.below hb rr, fun ad had hn e => by have := hv _ e; have := part_lt h had hn; omega⟩
structure StepsW (w : World) (B : Nat) (v : Value) (ss : List StepR) : Prop where
 own : w.ownsRow B 65 3 v ss.length (ss.flatMap StepR.cells)
 pq : ∀ s ∈ ss, Away v w s.p ∧ Away v w s.q
 sz : B ≤ w.heap.size
theorem StepsW.below {w w' : World} {B : Nat} {v : Value} {ss : List StepR} (h : StepsW w B v ss) (hb : Below w.heap.size w w') : StepsW w' B v ss :=
 ⟨own_heap h.own fun k e => hb.block k (h.own.lt k e).2, fun s hs => ⟨(h.pq s hs).1.below hb, (h.pq s hs).2.below hb⟩, Nat.le_trans h.sz hb.size⟩
theorem StepsW.nil (w : World) : StepsW w w.heap.size (.slice none 0 0) [] := ⟨World.ownsRow_nil _ _ _ _, fun s hs => by simp at hs, rr⟩
theorem StepsW.steps {w : World} {B : Nat} {A : Option Addr} {n c : Nat} {ss : List StepR} (h : StepsW w B (.slice A n c) ss) (hn : n = ss.length) : IsSteps w A n c ss := by
 subst hn
 exact ⟨Recs.of_own h.own StepR.len (by decide), fun s hs => ⟨(h.pq s hs).1.1, (h.pq s hs).2.1⟩⟩
theorem StepsW.push {w X : World} {B : Nat} {v v' : Value} {ss : List StepR} (h : StepsW w B v ss) {s : StepR} (hp : Away v w s.p) (hq : Away v w s.q)
  (hown : X.ownsRow B 65 3 v' (ss.length + 1) (ss.flatMap StepR.cells ++ s.cells)) (hg : w.grownBy X v.ownBlock) (hat : v'.ownBlock = v.ownBlock ∨ v'.ownBlock = some w.heap.size) : StepsW X B v' (ss ++ [s]) := by
 refine ⟨?_, fun t ht => ?_, Nat.le_trans h.sz hg.size⟩
 ·rw [List.length_append, List.length_singleton, List.flatMap_append, List.flatMap_singleton]; exact hown
 ·rcases List.mem_append.1 ht with ht | ht
  ·exact ⟨(h.pq t ht).1.grown hg hat, (h.pq t ht).2.grown hg hat⟩
  ·obtain rfl : t = s := by simpa using ht
   exact ⟨hp.grown hg hat, hq.grown hg hat⟩
theorem r10Steps_c (A : Option Addr) (n c : Nat) (xs : List LawR) (Aw : Option Addr) (nw cw : Nat) (ws : List Snd) (w : World) (hx : IsLaws w A n c xs) (hw : IsWord w Aw nw cw ws) (hu : LawsU xs) (hwu : WordU ws) :
  Calls Tryz.prog 63 #[.slice A n c, .slice Aw nw cw] w (RetStepsF w (stepsM (lawsD xs) ws)) := by
 have hmx := hx.max
 have HX := hI hx; clear hx
 have HW := hI hw; clear hw
 have HU := hI hu; clear hu
 have HWU := hI hwu; clear hwu
 go_enter Tryz.func63, Tryz.ntmps63
 go_wp2_with fail
 refine (r10Forms_c A n c xs Aw nw cw ws w HX.out HW.out HU.out HWU.out).mono ?_
 rintro e w1 ⟨A1, n1, c1, rfl, hw1, hB1⟩
 have HB1 := hI hB1; clear hB1
 obtain ⟨er, her⟩ : ∃ er, er = (formsE (lawsD xs) ws).1 := ⟨_, rfl⟩
 rw [← her]
 by_cases h0 : er = 0
 case neg =>
  have HM : Hid (stepsM (lawsD xs) ws = (er, [])) := by show stepsM _ _ = _; unfold stepsM; rw [← her, if_pos h0]
  have h1 : (er != 0) = true := by simpa using h0
  clear hw1 her h0
  go_wp2
  go_ret2
  exact ⟨none, 0, 0, [], by rw [HM.out]; rfl, by rw [HM.out]; rfl, ⟨⟨Cells.nil _ _, rfl⟩, fun s hs => by simp at hs⟩, HB1.out, fun ad h => by cases h⟩
 subst h0
 obtain ⟨fs, hfs⟩ : ∃ fs, fs = (formsE (lawsD xs) ws).2 := ⟨_, rfl⟩
 rw [← hfs] at hw1
 have HLN : Hid ((lawsD xs).length = n) := by show (lawsD xs).length = n; rw [lawsD, List.length_map]; exact HX.out.len
 have hfl : fs.length = n + 1 := by rw [hfs, formsE_full her.symm, HLN.out]
 obtain rfl : n1 = n + 1 := by rw [← hfl]; exact hw1.len.symm
 have hz := formsE_zero her.symm
 have hn64 : n ≤ 64 := by have h1 := (lawsE_all (chk_laws hz.1)).1; have h2 := HLN.out; omega
 have HM : Hid (stepsM (lawsD xs) ws = (0, stepsL fs n)) := by show stepsM _ _ = _; unfold stepsM; rw [← her, if_neg (by decide), ← hfs, HLN.out]
 clear hfl hz her hfs
 obtain ⟨b, off, rfl, hb1⟩ := hw1.shape (Nat.succ_pos n)
 have HW1 := hI hw1; clear hw1
 go_wp2
 go_loopw [8, 9] (fun v i wr => ∃ (j : Nat) (ss : List StepR), i = .int .i64 j ∧ j ≤ n ∧ Hid (ss.map StepR.data = stepsL fs j) ∧ Hid (StepsW wr w1.heap.size v ss) ∧ Below w1.heap.size w1 wr) (fun _ i _ => n - (intOf i).toNat)
 case atStart => exact ⟨0, [], rfl, Nat.zero_le _, rfl, StepsW.nil w1, Below.refl _ _⟩
 case round =>
  obtain ⟨j, ss, rfl, hj, hss, hok, hB⟩ := hrel
  have hBs := hB.size
  by_cases hlt : j < n
  ·obtain ⟨Aj, nj, cj, xj, hcj1, hxj, hwj⟩ := HW1.out.cell_at (k := j) (by omega)
   obtain ⟨Am, nm, cm, xm, hcm1, hxm, hwm⟩ := HW1.out.cell_at (k := j + 1) (by omega)
   have hcj := (hB.cell (p := ⟨b, off + j, none⟩) hb1).trans hcj1
   have hcm := (hB.cell (p := ⟨b, off + (j + 1), none⟩) hb1).trans hcm1
   have HWj := hI hwj; clear hwj
   have HWm := hI hwm; clear hwm
   have HAT : Hid (stepAt fs j = if xj = xm then [] else [(j, xj, xm)]) := by show stepAt fs j = _; unfold stepAt; rw [getD_of hxj, getD_of hxm]
   clear hxj hxm hcj1 hcm1
   have hbr : b < wr.heap.size := Nat.lt_of_lt_of_le hb1 hBs
   have hj1 : (j : Int) < (n : Int) := by omega
   have hj2 : (j : Int) < (n : Int) + 1 := by omega
   have hj3 : (j : Int) + 1 < (n : Int) + 1 := by omega
   have hjw : IntKind.i64.wrap ((j : Int) + 1) = (j : Int) + 1 := IntWalk.i64_in _ (by omega)
   have hj0 : (0 : Int) ≤ (j : Int) + 1 := by omega
   go_wp2
   refine plain_region (fun W' => W'.cell? ⟨b, off + j, none⟩ = some (.slice Aj nj cj) ∧ W'.cell? ⟨b, off + (j + 1), none⟩ = some (.slice Am nm cm)) (by kernel_rfl) ⟨hcj, hcm⟩ (fun hHeld => ?_)
   (refine' anyT_tk 0 rfl ?_; (try simp only [Act.put, nA, nB, nC, nD, nE, nF])); (refine' anyT_tk 1 rfl ?_; (try simp only [Act.put, nA, nB, nC, nD, nE, nF])); (refine' anyT_tk 2 rfl ?_; (try simp only [Act.put, nA, nB, nC, nD, nE, nF])); (refine' anyT_tk 3 rfl ?_; (try simp only [Act.put, nA, nB, nC, nD, nE, nF])); (refine' anyT_tk 4 rfl ?_; (try simp only [Act.put, nA, nB, nC, nD, nE, nF])); (refine' anyT_tk 5 rfl ?_; (try simp only [Act.put, nA, nB, nC, nD, nE, nF])); (refine' anyT_tk 6 rfl ?_; (try simp only [Act.put, nA, nB, nC, nD, nE, nF])); (refine' anyT_tk 7 rfl ?_; (try simp only [Act.put, nA, nB, nC, nD, nE, nF])); (refine' anyT_tk 8 rfl ?_; (try simp only [Act.put, nA, nB, nC, nD, nE, nF]))
   (refine anyT_step (i := 9) (by kernel_rfl) rfl (fun K' hK' => ?_); simp only [List.getElem_toArray, List.getElem_cons_zero, List.getElem_cons_succ]; go_simp)
   refine (rEqual_c Aj Am nj nm cj cm xj xm _ ((HWj.out.below hB rr).below (B := wr.heap.size) ((Below.refl wr.heap.size wr).drew) rr) ((HWm.out.below hB rr).below (B := wr.heap.size) ((Below.refl wr.heap.size wr).drew) rr)).mono ?_
   rintro e w2 ⟨rfl, hb2'⟩
   have hb2 : Below wr.heap.size wr w2 := (Below.refl wr.heap.size wr).drew.trans hb2'
   have hS2 : w2.cell? ⟨b, off + j, none⟩ = some (.slice Aj nj cj) ∧ w2.cell? ⟨b, off + (j + 1), none⟩ = some (.slice Am nm cm) := ⟨(hb2.cell (p := ⟨b, off + j, none⟩) hbr).trans hcj, (hb2.cell (p := ⟨b, off + (j + 1), none⟩) hbr).trans hcm⟩
   refine hK' _ _ ⟨.inr hS2, fun _ => ?_⟩
   clear hK' K' hb2' hHeld hcj hcm
   have hB2 : Below w1.heap.size w1 w2 := hB.trans (hb2.mono hBs)
   have hok2 : Hid (StepsW w2 w1.heap.size u8 ss) := hok.out.below hb2
   have hbr2 : b < w2.heap.size := Nat.lt_of_lt_of_le hbr hb2.size
   clear hok hb2
   (try simp only [Act.put, nA, nB, nC, nD, nE, nF])
   (refine anyT_step (i := 10) (by kernel_rfl) rfl (fun K' hK' => ?_); simp only [List.getElem_toArray, List.getElem_cons_zero, List.getElem_cons_succ]; go_simp)
   refine hK' _ _ ⟨.inl (by kernel_rfl), fun _ => anyT_done (by kernel_rfl) ?_ _⟩
   clear hK' K'
   obtain ⟨d, hd⟩ : ∃ d, d = decide (xj = xm) := ⟨_, rfl⟩
   rw [← hd]
   cases d
   case true =>
    have hxx : xj = xm := of_decide_eq_true hd.symm
    have HS : Hid (ss.map StepR.data = stepsL fs (j + 1)) := by show _ = _; rw [stepsL_succ, HAT.out, if_pos hxx, List.append_nil]; exact hss.out
    clear hd hxx hss HAT
    go_wp2
    go_roundw
    case rel => exact ⟨j + 1, ss, by go_num, by omega, HS, hok2, hB2⟩
    case measure => simp [intOf]; omega
   case false =>
    have hxx : ¬ xj = xm := of_decide_eq_false hd.symm
    have HS : Hid ((ss.map StepR.data) ++ [(j, xj, xm)] = stepsL fs (j + 1)) := by show _ = _; rw [stepsL_succ, HAT.out, if_neg hxx, hss.out]
    have hsl : ss.length ≤ 64 := by have h1 := stepsL_len fs j; rw [← hss.out, List.length_map] at h1; omega
    clear hd hxx hss HAT
    obtain ⟨hS2a, hS2b⟩ := hS2
    have HP2 : Hid (Away u8 w2 (Aj, nj, cj, xj)) := Away.old HWj.out hB2 (fun k e => (hok2.out.own.lt k e).1)
    have HQ2 : Hid (Away u8 w2 (Am, nm, cm, xm)) := Away.old HWm.out hB2 (fun k e => (hok2.out.own.lt k e).1)
    go_wp2
    refine plain_region (fun W' => W'.cell? ⟨b, off + j, none⟩ = some (.slice Aj nj cj) ∧ W'.cell? ⟨b, off + (j + 1), none⟩ = some (.slice Am nm cm)) (by kernel_rfl) ⟨hS2a, hS2b⟩ (fun hHeld => ?_)
    (refine' anyT_tk 0 rfl ?_; (try simp only [Act.put, nA, nB, nC, nD, nE, nF])); (refine' anyT_tk 1 rfl ?_; (try simp only [Act.put, nA, nB, nC, nD, nE, nF])); (refine' anyT_tk 2 rfl ?_; (try simp only [Act.put, nA, nB, nC, nD, nE, nF])); (refine' anyT_tk 3 rfl ?_; (try simp only [Act.put, nA, nB, nC, nD, nE, nF])); (refine' anyT_tk 4 rfl ?_; (try simp only [Act.put, nA, nB, nC, nD, nE, nF])); (refine' anyT_tk 5 rfl ?_; (try simp only [Act.put, nA, nB, nC, nD, nE, nF])); (refine' anyT_tk 6 rfl ?_; (try simp only [Act.put, nA, nB, nC, nD, nE, nF])); (refine' anyT_tk 7 rfl ?_; (try simp only [Act.put, nA, nB, nC, nD, nE, nF])); (refine' anyT_tk 8 rfl ?_; (try simp only [Act.put, nA, nB, nC, nD, nE, nF])); (refine' anyT_tk 9 rfl ?_; (try simp only [Act.put, nA, nB, nC, nD, nE, nF])); (refine' anyT_tk 10 rfl ?_; (try simp only [Act.put, nA, nB, nC, nD, nE, nF])); (refine' anyT_tk 11 rfl ?_; (try simp only [Act.put, nA, nB, nC, nD, nE, nF]))
    (refine anyT_step (i := 12) (by kernel_rfl) rfl (fun K' hK' => ?_); simp only [List.getElem_toArray, List.getElem_cons_zero, List.getElem_cons_succ]; go_simp)
    have hba : Below w2.heap.size w2 (w2.alloc (.cells #[.int .i64 j, .slice Aj nj cj, .slice Am nm cm] 65)).drew := ((Below.refl w2.heap.size w2).alloc rr _).drew
    have hS5 : (w2.alloc (.cells #[.int .i64 j, .slice Aj nj cj, .slice Am nm cm] 65)).drew.cell? ⟨b, off + j, none⟩ = some (.slice Aj nj cj) ∧ (w2.alloc (.cells #[.int .i64 j, .slice Aj nj cj, .slice Am nm cm] 65)).drew.cell? ⟨b, off + (j + 1), none⟩ = some (.slice Am nm cm) := ⟨(hba.cell (p := ⟨b, off + j, none⟩) hbr2).trans hS2a, (hba.cell (p := ⟨b, off + (j + 1), none⟩) hbr2).trans hS2b⟩
    refine hK' _ _ ⟨.inr hS5, fun _ => ?_⟩
    clear hK' K' hHeld
    have hok5 := hok2.out.below hba
    have hp5 := HP2.out.below hba
    have hq5 := HQ2.out.below hba
    have hB5 : Below w1.heap.size w1 (w2.alloc (.cells #[.int .i64 j, .slice Aj nj cj, .slice Am nm cm] 65)).drew := hB2.trans (hba.mono hB2.size)
    have hz5 : ∀ i u, [Value.int .i64 j, .slice Aj nj cj, .slice Am nm cm][i]? = some u → (w2.alloc (.cells #[.int .i64 j, .slice Aj nj cj, .slice Am nm cm] 65)).drew.cell? ((⟨w2.heap.size, 0, none⟩ : Addr).add i) = some u := cells_new_block w2 _ _
    clear hba
    (try simp only [Act.put, nA, nB, nC, nD, nE, nF])
    generalize (w2.alloc (.cells #[.int .i64 j, .slice Aj nj cj, .slice Am nm cm] 65)).drew = w5 at *
    refine anyT_step (i := 13) (by kernel_rfl) rfl (fun K' hK' => ?_)
    rw [if_pos (by rfl)]
    refine wp_append_own_at (.tmp 36) (.tmp 48) 61 rfl w1.heap.size 65 (.agg #[.int .i64 0, .slice none 0 0, .slice none 0 0]) 3 56 Tryz.underlying61 step_info rfl (by decide) u8 ss.length _ (by rfl) hok5.own ⟨w2.heap.size, 0, none⟩ 1 1 [.int .i64 j, .slice Aj nj cj, .slice Am nm cm] (by rfl) rfl hz5 (by intro u hu; simp at hu; rcases hu with rfl | rfl | rfl <;> rfl) (by unfold maxLen; omega) (by omega) hok5.sz ?_
    intro v' w6 hown6 hg6 _ hat6
    have hok6 : StepsW w6 w1.heap.size v' (ss ++ [⟨j, (Aj, nj, cj, xj), (Am, nm, cm, xm)⟩]) := hok5.push hp5 hq5 hown6 hg6 hat6
    have hnb : some b ≠ u8.ownBlock := fun e => by have := (hok5.own.lt b e.symm).1; omega
    have hS6 : w6.cell? ⟨b, off + j, none⟩ = some (.slice Aj nj cj) ∧ w6.cell? ⟨b, off + (j + 1), none⟩ = some (.slice Am nm cm) := ⟨hg6.cell hS5.1 hnb, hg6.cell hS5.2 hnb⟩
    have hB6 : Below w1.heap.size w1 w6 := hB5.grown hg6 (by have := hok5.sz; omega) (fun k hk => by have := (hok5.own.lt k hk).1; omega)
    refine hK' _ _ ⟨.inr hS6, fun _ => ?_⟩
    clear hK' K' hok5 hp5 hq5 hB5 hz5 hS5 hown6 hg6 hat6
    (try simp only [Act.put, nA, nB, nC, nD, nE, nF])
    (refine anyT_step (i := 14) (by kernel_rfl) rfl (fun K' hK' => ?_); simp only [List.getElem_toArray, List.getElem_cons_zero, List.getElem_cons_succ]; go_simp)
    refine hK' _ _ ⟨.inl (by kernel_rfl), fun _ => anyT_done (by kernel_rfl) ?_ _⟩
    clear hK' K' hS6
    go_wp2
    go_roundw
    case rel => exact ⟨j + 1, _, by go_num, by omega, by rw [List.map_append]; exact HS.out, hok6, hB6⟩
    case measure => simp [intOf]; omega
  ·obtain rfl : j = n := by omega
   obtain ⟨A9, c9, hv9⟩ := own_form hok.out.own
   subst hv9
   go_wp2
   go_ret2
   exact ⟨A9, _, c9, ss, by rw [HM.out]; rfl, by rw [HM.out]; exact hss.out, hok.out.steps rfl, HB1.out.trans (hB.mono HB1.out.size), fun ad had => by subst had; exact Nat.le_trans HB1.out.size (hok.out.own.lt ad.block rfl).1⟩
end Go.Proofs.YtfgilinjaldhhaaGreatDoor

/-
  When a wave arrives at a point: wave.Wave's at.
  slices.Contains over numbers; which waves are allowed: wave.Wave's check, wave.Check.
  wave.Arrive, wave.Relics.
  wave.Relics.
  cmp.Compare over int, cmp.Or; which wave comes first: arrival's rank and by; wave.Crossed.
  wave.Crossed.
  The closures of wave.line and wave.arrived; slices.SortStableFunc over few waves.
-/
import Derived.Test.YtaglfmlgbcmakaaGreatDoorH02
set_option linter.all false
set_option maxRecDepth 100000
set_option maxHeartbeats 4000000
namespace Go.Proofs.YtaglfmlgbcmakaaGreatDoor
open Go.RowKit Go.Shelf
theorem near_snoc_o (l : List (Option Nat)) (o : Option Nat) : nearO (l ++ [o]) = minO (nearO l) o := by
 unfold nearO; rw [List.foldl_append]; rfl
theorem at_c (b n : Nat) (rs : List RoadN) (x : WaveR) (a : Nat) (w : World) (hm : MapAt w b n rs) (hx : WaveAt w x) (h1 : oneE n x.d = 0) (ha : a < n) :
  Calls Tryz.prog 62 #[waveV x, .pointer (some ⟨b, 0, none⟩), .int .i64 (a : Int)] w fun e w' => e = .returned (.int .i64 (arrI (arrM n rs x.d a))) ∧ Below w.heap.size w w' := by
 obtain ⟨hpts, hu⟩ := hx
 obtain ⟨hin, ht0, ht1, hs0, hs1⟩ := one_ok h1
 obtain ⟨⟨law, ps, time, slow, fin⟩, Aw, nw, cw⟩ := x
 obtain ⟨T, rfl⟩ : ∃ T : Nat, time = T := ⟨time.toNat, by simp only at ht0; omega⟩
 obtain ⟨S, rfl⟩ : ∃ S : Nat, slow = S := ⟨slow.toNat, by simp only at hs0; omega⟩
 have hfin := hu.fin
 simp only at hpts hin ht1 hs1 hfin
 have HP := hI hpts; have HIN := hI hin; have HM := hI hm
 have hmax : nw ≤ 9223372036854775807 := by have h1 := hpts.2.1; have h2 := hpts.2.2.1; unfold maxLen at h2; omega
 have hlen : ps.length = nw := by have := hpts.1; simpa using this
 have HL := hI hlen
 clear hpts hin hu h1 hm ht0 hs0 hlen
 have kb : (w.alloc (.cells #[.int .i64 law, .slice Aw nw cw, .int .i64 (T : Int), .int .i64 (S : Int), .int .i64 fin] 38)).heap[w.heap.size]? = some (.cells #[.int .i64 law, .slice Aw nw cw, .int .i64 (T : Int), .int .i64 (S : Int), .int .i64 fin] 38 (0, 0)) := hpt
 have kB : Below w.heap.size w (w.alloc (.cells #[.int .i64 law, .slice Aw nw cw, .int .i64 (T : Int), .int .i64 (S : Int), .int .i64 fin] 38)) := bel
 go_enter Tryz.func62, Tryz.ntmps62
 go_wp2_with fail
 obtain ⟨f, hf⟩ : ∃ f : Int → Option Nat, f = fun b => distN n rs a b.toNat := ⟨_, rfl⟩
 have HF := hI hf
 obtain ⟨B0, hB0⟩ : ∃ B0, B0 = w.heap.size := ⟨_, rfl⟩
 rw [← hB0] at kb ⊢
 have HK0 := hI kb
 have HB0 := hI kB
 have hw0 : w.heap.size ≤ B0 := Nat.le_of_eq hB0.symm
 generalize w.alloc (.cells #[.int .i64 law, .slice Aw nw cw, .int .i64 (T : Int), .int .i64 (S : Int), .int .i64 fin] 38) = W0 at *
 clear hB0 kb kB hf
 go_loopw [7, 15] (fun s7 i wr => ∃ k : Nat, k ≤ nw ∧ i = .int .i64 (k : Int) ∧ s7 = .int .i64 (arrI (nearO ((ps.take k).map f))) ∧ Hid (wr.heap[B0]? = some (.cells #[.int .i64 law, .slice Aw nw cw, .int .i64 (T : Int), .int .i64 (S : Int), .int .i64 fin] 38 (0, 0))) ∧ Hid (Below w.heap.size w wr)) (fun _ i _ => nw - (intOf i).toNat)
 case atStart => exact ⟨0, Nat.zero_le _, rfl, by simp [nearO, arrI], HK0.out, HB0.out⟩
 case round =>
  obtain ⟨k, hk, rfl, rfl, HK, HB⟩ := hrel
  clear HK0 HB0
  obtain ⟨o0, ho0⟩ : ∃ o0, o0 = nearO ((ps.take k).map f) := ⟨_, rfl⟩
  rw [← ho0]
  by_cases hlt : k < nw
  ·have hkn : (k : Int) < (nw : Int) := by omega
   obtain ⟨pb, po, v, hA, hpb, hv, hcv⟩ := (HP.out.below HB.out rr : Cells wr Aw nw cw 1 (ps.map (Value.int .i64))).at1 hlt
   subst hA
   obtain ⟨p, hp⟩ : ∃ p, ps[k]? = some p := ⟨ps[k]'(by rw [HL.out]; exact hlt), List.getElem?_eq_getElem _⟩
   obtain rfl : v = .int .i64 p := by rw [List.getElem?_map, hp] at hv; simpa using hv.symm
   have hpin := HIN.out p (List.mem_of_getElem? hp)
   have HPK : Hid (ps.take (k + 1) = ps.take k ++ [p]) := take_snoc' ps k p hp
   have hdi : distI n rs (a : Int) p = f p := by
    unfold distI
    rw [if_pos ⟨⟨by omega, by omega⟩, hpin.1, hpin.2⟩, HF.out]; rfl
   have HDI := hI hdi; have HO0 := hI ho0
   clear hv hp hdi ho0 hpin
   go_wp2_with fail
   refine (dist_c b n rs (a : Int) p wr (HM.out.below HB.out)).mono ?_
   rw [HDI.out]
   obtain ⟨o, ho⟩ : ∃ o, o = f p := ⟨_, rfl⟩
   have HO1 : Hid (nearO ((ps.take (k + 1)).map f) = minO o0 o) := by
    show _ = _
    rw [HPK.out, List.map_append, List.map_singleton, near_snoc_o, ho, HO0.out]
   rw [← ho]
   rintro e w1 ⟨rfl, hb1⟩
   have HB1 := hI (HB.out.trans (hb1.mono HB.out.size))
   have HK1 := hI ((hb1.block B0 (lt_of_block HK.out)).trans HK.out)
   clear hb1 HB HK ho hcv hpb
   cases o with
   | none =>
    go_wp2_with fail
    go_roundw
    case rel => exact ⟨k + 1, by omega, by simp, by rw [HO1.out, minO_none], HK1.out, HB1.out⟩
    case measure => simp [intOf]; omega
   | some d =>
    cases o0 with
    | none =>
     simp only [arrI, Option.getD_some, Option.isSome_some]
     go_wp2_with fail
     go_roundw
     case rel => exact ⟨k + 1, by omega, by simp, by rw [HO1.out]; rfl, HK1.out, HB1.out⟩
     case measure => simp [intOf]; omega
    | some e0 =>
     simp only [arrI, Option.getD_some, Option.isSome_some]
     have hn0 : ¬ (e0 : Int) < 0 := by omega
     by_cases hde : d < e0
     ·have hde' : (d : Int) < (e0 : Int) := by omega
      go_wp2_with fail
      go_roundw
      case rel => exact ⟨k + 1, by omega, by simp, by rw [HO1.out, minO_if, if_pos hde]; rfl, HK1.out, HB1.out⟩
      case measure => simp [intOf]; omega
     ·have hde' : ¬ (d : Int) < (e0 : Int) := by omega
      go_wp2_with fail
      go_roundw
      case rel => exact ⟨k + 1, by omega, by simp, by rw [HO1.out, minO_if, if_neg hde]; rfl, HK1.out, HB1.out⟩
      case measure => simp [intOf]; omega
  ·obtain rfl : k = nw := by omega
   have HN : Hid (arrM n rs ⟨law, ps, T, S, fin⟩ a = arriveO o0 T S fin) := by
    show _ = _
    unfold arrM nearM
    rw [← HF.out, ho0, List.take_of_length_le (by rw [HL.out]; exact rr)]
    rfl
   have c2 := cell_at_heap (j := 2) HK.out rfl
   have c3 := cell_at_heap (j := 3) HK.out rfl
   have c4 := cell_at_heap (j := 4) HK.out rfl
   clear ho0
   cases o0 with
   | none =>
    simp only [arrI]
    go_wp2
    go_ret
    exact ⟨by rw [HN.out]; rfl, HB.out⟩
   | some d =>
    simp only [arrI]
    have hn0 : ¬ (d : Int) < 0 := by omega
    go_upto_region 11 with fail
    go_cut [41] from 42 to 53 (fun s41 wx => s41 = .bool (decide (9223372036854775807 < T + S * d)) ∧ wx = wr.drew)
    case first =>
     by_cases hd0 : d = 0
     ·subst hd0
      have hS : wr.cell? ⟨B0, 3, none⟩ = some (.int .i64 (S : Int)) ∧ wr.cell? ⟨B0, 2, none⟩ = some (.int .i64 (T : Int)) := ⟨c3, c2⟩
      refine plain_region (fun W' => W'.cell? ⟨B0, 3, none⟩ = some (.int .i64 (S : Int)) ∧ W'.cell? ⟨B0, 2, none⟩ = some (.int .i64 (T : Int))) (by kernel_rfl) hS (fun hHeld => ?_)
      clear hS
      have hS := hHeld
      (refine' anyT_tk 0 rfl ?_; (try simp only [Act.put, nY, nX])); (refine' anyT_tk 1 rfl ?_; (try simp only [Act.put, nY, nX])); (refine' anyT_tk 2 rfl ?_; (try simp only [Act.put, nY, nX]))
      refine' anyT_take (i := 3) (v := undef) rfl (by as_aux_lemma => kernel_rfl) (by as_aux_lemma => kernel_rfl) (by as_aux_lemma => kernel_rfl) (by as_aux_lemma => kernel_rfl) (fun _ _ _ h => h) (Or.inr ⟨by as_aux_lemma => kernel_rfl, rfl⟩) hS ?_
      (try simp only [Act.put, nY, nX])
      refine' anyT_take (i := 4) (v := undef) rfl (by as_aux_lemma => kernel_rfl) (by as_aux_lemma => kernel_rfl) (by as_aux_lemma => kernel_rfl) (by as_aux_lemma => kernel_rfl) (fun _ _ _ h => h) (Or.inr ⟨by as_aux_lemma => kernel_rfl, rfl⟩) hS ?_
      (try simp only [Act.put, nY, nX])
      refine' anyT_take (i := 5) (v := undef) rfl (by as_aux_lemma => kernel_rfl) (by as_aux_lemma => kernel_rfl) (by as_aux_lemma => kernel_rfl) (by as_aux_lemma => kernel_rfl) (fun _ _ _ h => h) (Or.inr ⟨by as_aux_lemma => kernel_rfl, rfl⟩) hS ?_
      (try simp only [Act.put, nY, nX])
      refine' anyT_take (i := 6) (v := undef) rfl (by as_aux_lemma => kernel_rfl) (by as_aux_lemma => kernel_rfl) (by as_aux_lemma => kernel_rfl) (by as_aux_lemma => kernel_rfl) (fun _ _ _ h => h) (Or.inr ⟨by as_aux_lemma => kernel_rfl, rfl⟩) hS ?_
      (try simp only [Act.put, nY, nX])
      refine' anyT_take (i := 7) (v := undef) rfl (by as_aux_lemma => kernel_rfl) (by as_aux_lemma => kernel_rfl) (by as_aux_lemma => kernel_rfl) (by as_aux_lemma => kernel_rfl) (fun _ _ _ h => h) (Or.inr ⟨by as_aux_lemma => kernel_rfl, rfl⟩) hS ?_
      (try simp only [Act.put, nY, nX])
      refine' anyT_take (i := 8) (v := undef) rfl (by as_aux_lemma => kernel_rfl) (by as_aux_lemma => kernel_rfl) (by as_aux_lemma => kernel_rfl) (by as_aux_lemma => kernel_rfl) (fun _ _ _ h => h) (Or.inr ⟨by as_aux_lemma => kernel_rfl, rfl⟩) hS ?_
      (try simp only [Act.put, nY, nX])
      refine' anyT_take (i := 9) (v := undef) rfl (by as_aux_lemma => kernel_rfl) (by as_aux_lemma => kernel_rfl) (by as_aux_lemma => kernel_rfl) (by as_aux_lemma => kernel_rfl) (fun _ _ _ h => h) (Or.inr ⟨by as_aux_lemma => kernel_rfl, rfl⟩) hS ?_
      (try simp only [Act.put, nY, nX])
      refine' anyT_take (i := 10) (v := undef) rfl (by as_aux_lemma => kernel_rfl) (by as_aux_lemma => kernel_rfl) (by as_aux_lemma => kernel_rfl) (by as_aux_lemma => kernel_rfl) (fun _ _ _ h => h) (Or.inr ⟨by as_aux_lemma => kernel_rfl, rfl⟩) hS ?_
      (try simp only [Act.put, nY, nX])
      (refine' anyT_tk 11 rfl ?_; (try simp only [Act.put, nY, nX]))
      (refine anyT_sp 12 rfl (fun K' hK' => ?_); simp only [nY]; go_simp)
      refine hK' _ _ ⟨.inl (by kernel_rfl), fun _ => anyT_done (by kernel_rfl) ?_ _⟩
      clear hK' K' hHeld hS
      go_wp2_with fail
      go_meet
      case rel => exact ⟨by rw [Nat.mul_zero]; rw [decide_eq_false (by omega)], rfl⟩
     ·have hdp : (0 : Int) < (d : Int) := by omega
      have hS : wr.cell? ⟨B0, 3, none⟩ = some (.int .i64 (S : Int)) ∧ wr.cell? ⟨B0, 2, none⟩ = some (.int .i64 (T : Int)) := ⟨c3, c2⟩
      refine plain_region (fun W' => W'.cell? ⟨B0, 3, none⟩ = some (.int .i64 (S : Int)) ∧ W'.cell? ⟨B0, 2, none⟩ = some (.int .i64 (T : Int))) (by kernel_rfl) hS (fun hHeld => ?_)
      clear hS
      (refine' anyT_tk 0 rfl ?_; (try simp only [Act.put, nY, nX])); (refine' anyT_tk 1 rfl ?_; (try simp only [Act.put, nY, nX]))
      rw [decide_eq_true (show 0 < d by omega)]
      obtain ⟨q, hq⟩ : ∃ q : Nat, q = (9223372036854775807 - T) / d := ⟨_, rfl⟩
      have hqd : (9223372036854775807 - (T : Int)) / (d : Int) = (q : Int) := by
       rw [hq, show (9223372036854775807 - (T : Int)) = ((9223372036854775807 - T : Nat) : Int) by omega]; rfl
      have hqt : Int.tdiv (9223372036854775807 - (T : Int)) (d : Int) = (q : Int) := by rw [Int.tdiv_eq_ediv_of_nonneg (by omega)]; exact hqd
      have hdn : ¬ d = 0 := hd0
      have hql : q ≤ 9223372036854775807 := by rw [hq]; exact Nat.le_trans (Nat.div_le_self _ _) (Nat.sub_le _ _)
      (refine' anyT_tk 2 rfl ?_; (try simp only [Act.put, nY, nX])); (refine' anyT_tk 3 rfl ?_; (try simp only [Act.put, nY, nX])); (refine' anyT_tk 4 rfl ?_; (try simp only [Act.put, nY, nX])); (refine' anyT_tk 5 rfl ?_; (try simp only [Act.put, nY, nX])); (refine' anyT_tk 6 rfl ?_; (try simp only [Act.put, nY, nX])); (refine' anyT_tk 7 rfl ?_; (try simp only [Act.put, nY, nX])); (refine' anyT_tk 8 rfl ?_; (try simp only [Act.put, nY, nX]))
      have htf : (q < S) ↔ 9223372036854775807 < T + S * d := by
       have := too_far (T := T) (S := S) (d := d) (M := 9223372036854775807) (by omega)
       rw [hq, ← this]
       exact ⟨fun h => ⟨by omega, h⟩, fun h => h.2⟩
      have HTF := hI htf
      clear hq htf
      (refine' anyT_tk 9 rfl ?_; (try simp only [Act.put, nY, nX]))
      rw [show IntKind.i64.wrap (9223372036854775807 - (T : Int)) = 9223372036854775807 - (T : Int) from IntWalk.i64_in _ (by omega), hqt, show IntKind.i64.wrap (q : Int) = (q : Int) from IntWalk.i64_in _ (by omega)]
      (refine' anyT_tk 10 rfl ?_; (try simp only [Act.put, nY, nX])); (refine' anyT_tk 11 rfl ?_; (try simp only [Act.put, nY, nX]))
      (refine anyT_sp 12 rfl (fun K' hK' => ?_); simp only [nY]; go_simp)
      refine hK' _ _ ⟨.inl (by kernel_rfl), fun _ => anyT_done (by kernel_rfl) ?_ _⟩
      clear hK' K' hHeld
      go_wp2_with fail
      go_meet
      case rel => exact ⟨by congr 1; exact decide_eq_decide.2 HTF.out, rfl⟩
    case rest =>
     obtain ⟨rfl, hwc⟩ := hcut
     obtain rfl := hwc
     by_cases hbig : 9223372036854775807 < T + S * d
     ·rw [decide_eq_true hbig]
      go_wp2
      go_ret
      exact ⟨by rw [HN.out]; show _ = Ending.returned (.int .i64 (arrI (if 9223372036854775807 < T + S * d then none else _))); rw [if_pos hbig]; rfl, HB.out.drew⟩
     ·rw [decide_eq_false hbig]
      have hp0 : (S : Int) * (d : Int) = ((S * d : Nat) : Int) := by simp
      have hsd : S * d ≤ 9223372036854775807 := by omega
      obtain ⟨sd, hsd'⟩ : ∃ sd, sd = S * d := ⟨_, rfl⟩
      rw [← hsd'] at hp0 hsd hbig
      have hts : T + sd ≤ 9223372036854775807 := by omega
      have HSD := hI hsd'
      clear hsd'
      have HV : Hid (arriveO (some d) T S fin = if fin ≤ (T : Int) + (sd : Int) then none else some (T + sd)) := by
       show (if 9223372036854775807 < T + S * d then none else if fin ≤ ((T + S * d : Nat) : Int) then none else some (T + S * d)) = _
       rw [← HSD.out, if_neg hbig]; simp
      have HB' := hI HB.out.drew
      by_cases hfi : fin ≤ (T : Int) + (sd : Int)
      ·go_wp2
       go_ret
       exact ⟨by rw [HN.out, HV.out, if_pos hfi]; rfl, HB'.out⟩
      ·go_wp2
       go_ret
       exact ⟨by rw [HN.out, HV.out, if_neg (by omega)]; simp [arrI], HB'.out⟩
theorem idxN_c (A : Option Addr) (n c : Nat) (xs : List Int) (v : Int) (w : World) (hx : IsInts w A n c xs) :
  Calls Tryz.prog 143 #[.slice A n c, .int .i64 v] w fun e w' => ∃ i : Int, e = .returned (.int .i64 i) ∧ decide (0 ≤ i) = xs.any (fun b => decide (b = v)) ∧ Below w.heap.size w w' := by
 have hmax : n ≤ 9223372036854775807 := by have h1 := hx.2.1; have h2 := hx.2.2.1; unfold maxLen at h2; omega
 have hlen : xs.length = n := by have := hx.1; simpa using this
 have HX := hI hx; have HL := hI hlen
 clear hx hlen
 go_enter Tryz.func143, Tryz.ntmps143
 go_wp2
 go_loopw [8] (fun i wr => ∃ k : Nat, k ≤ n ∧ i = .int .i64 (k : Int) ∧ Hid ((xs.take k).any (fun b => decide (b = v)) = false) ∧ Hid (Below w.heap.size w wr)) (fun i _ => n - (intOf i).toNat)
 case atStart => exact ⟨0, Nat.zero_le _, rfl, by simp [Hid], Below.refl _ _⟩
 case round =>
  obtain ⟨k, hk, rfl, HN, HB⟩ := hrel
  by_cases hlt : k < n
  ·have hkn : (k : Int) < (n : Int) := by omega
   obtain ⟨pb, po, u, hA, hpb, hv, hcv⟩ := (HX.out.below HB.out rr : Cells wr A n c 1 (xs.map (Value.int .i64))).at1 hlt
   subst hA
   obtain ⟨p, hp⟩ : ∃ p, xs[k]? = some p := ⟨xs[k]'(by rw [HL.out]; exact hlt), List.getElem?_eq_getElem _⟩
   obtain rfl : u = .int .i64 p := by rw [List.getElem?_map, hp] at hv; simpa using hv.symm
   have HPK : Hid (xs.take (k + 1) = xs.take k ++ [p]) := take_snoc' xs k p hp
   have HPM := hI (List.mem_of_getElem? hp)
   clear hv hp hpb
   by_cases he : v = p
   ·subst he
    go_wp2
    go_ret
    refine ⟨(k : Int), rfl, ?_, HB.out⟩
    rw [decide_eq_true (by omega)]
    symm
    rw [List.any_eq_true]
    exact ⟨v, HPM.out, by simp⟩
   ·have he' : (v == p) = false := by simpa using he
    go_wp2
    go_roundw
    case rel => exact ⟨k + 1, by omega, by simp, by
     show _ = _
     rw [HPK.out, List.any_append, HN.out]
     have : ¬ p = v := fun e => he e.symm
     simp [this], HB.out⟩
    case measure => simp [intOf]; omega
  ·obtain rfl : k = n := by omega
   go_wp2
   go_ret
   refine ⟨-1, rfl, ?_, HB.out⟩
   have h := HN.out
   rw [List.take_of_length_le (by rw [HL.out]; exact rr)] at h
   rw [h]; rfl
theorem conN_c (A : Option Addr) (n c : Nat) (xs : List Int) (v : Int) (w : World) (hx : IsInts w A n c xs) :
  Calls Tryz.prog 105 #[.slice A n c, .int .i64 v] w fun e w' => e = .returned (.bool (xs.any fun b => decide (b = v))) ∧ Below w.heap.size w w' := by
 have HX := hI hx
 clear hx
 go_enter Tryz.func105, Tryz.ntmps105
 go_wp2_with fail
 refine (idxN_c A n c xs v w HX.out).mono ?_
 rintro e w1 ⟨i, rfl, hi, hb1⟩
 have HI := hI hi; have HB := hI hb1
 clear hi hb1
 go_wp2
 go_ret
 exact ⟨by rw [← HI.out]; rfl, HB.out⟩
theorem oneE_c (b : Nat) (An : Option Addr) (n cn : Nat) (x : WaveR) (w : World) (hc : w.cell? ⟨b, 0, none⟩ = some (.slice An n cn)) (hbl : b < w.heap.size) (hx : WaveAt w x) :
  Calls Tryz.prog 61 #[waveV x, .pointer (some ⟨b, 0, none⟩)] w fun e w' => e = .returned (.int .i64 (oneE n x.d)) ∧ Below w.heap.size w w' := by
 obtain ⟨hpts, hu⟩ := hx
 obtain ⟨⟨law, ps, T, S, fin⟩, Aw, nw, cw⟩ := x
 simp only at hpts
 have hmax : nw ≤ 9223372036854775807 := by have h1 := hpts.2.1; have h2 := hpts.2.2.1; unfold maxLen at h2; omega
 have hlen : ps.length = nw := by have := hpts.1; simpa using this
 have hncw : nw ≤ cw := hpts.2.1
 have HP := hI hpts; have HC := hI hc; have HL := hI hlen
 clear hpts hc hlen hu
 have kb : (w.alloc (.cells #[.int .i64 law, .slice Aw nw cw, .int .i64 T, .int .i64 S, .int .i64 fin] 38)).heap[w.heap.size]? = some (.cells #[.int .i64 law, .slice Aw nw cw, .int .i64 T, .int .i64 S, .int .i64 fin] 38 (0, 0)) := hpt
 have kB : Below w.heap.size w (w.alloc (.cells #[.int .i64 law, .slice Aw nw cw, .int .i64 T, .int .i64 S, .int .i64 fin] 38)) := bel
 go_enter Tryz.func61, Tryz.ntmps61
 go_wp2_with fail
 obtain ⟨B0, hB0⟩ : ∃ B0, B0 = w.heap.size := ⟨_, rfl⟩
 rw [← hB0] at kb ⊢
 have HK0 := hI kb
 have HB0 := hI kB
 have hw0 : w.heap.size ≤ B0 := Nat.le_of_eq hB0.symm
 generalize w.alloc (.cells #[.int .i64 law, .slice Aw nw cw, .int .i64 T, .int .i64 S, .int .i64 fin] 38) = W0 at *
 clear hB0 kb kB
 go_loopw [5, 6, 10] (fun _ _ i wr => ∃ k : Nat, k ≤ nw ∧ i = .int .i64 (k : Int) ∧ Hid (atErr n [] ps = atErr n (ps.take k) (ps.drop k)) ∧ Hid (wr.heap[B0]? = some (.cells #[.int .i64 law, .slice Aw nw cw, .int .i64 T, .int .i64 S, .int .i64 fin] 38 (0, 0))) ∧ Hid (Below w.heap.size w wr)) (fun _ _ i _ => nw - (intOf i).toNat)
 case atStart => exact ⟨0, Nat.zero_le _, rfl, rfl, HK0.out, HB0.out⟩
 case round =>
  obtain ⟨k, hk, rfl, HE, HK, HB⟩ := hrel
  clear HK0 HB0
  have c1 := cell_at_heap (j := 1) HK.out rfl
  by_cases hlt : k < nw
  ·have hkn : (k : Int) < (nw : Int) := by omega
   obtain ⟨pb, po, v, hA, hpb, hv, hcv⟩ := (HP.out.below HB.out rr : Cells wr Aw nw cw 1 (ps.map (Value.int .i64))).at1 hlt
   obtain ⟨p, hp⟩ : ∃ p, ps[k]? = some p := ⟨ps[k]'(by rw [HL.out]; exact hlt), List.getElem?_eq_getElem _⟩
   obtain rfl : v = .int .i64 p := by rw [List.getElem?_map, hp] at hv; simpa using hv.symm
   have hdr : ps.drop k = p :: ps.drop (k + 1) := by
    rw [List.drop_eq_getElem_cons (by rw [HL.out]; exact hlt)]
    congr 1
    exact (List.getElem?_eq_some_iff.1 hp).2
   have HPK : Hid (ps.take (k + 1) = ps.take k ++ [p]) := take_snoc' ps k p hp
   have HS : Hid (atErr n (ps.take k) (ps.drop k) = if p < 0 ∨ (n : Int) ≤ p then 3 else if (ps.take k).any (fun b => decide (b = p)) then 6 else atErr n (ps.take (k + 1)) (ps.drop (k + 1))) := by
    show _ = _
    rw [hdr, HPK.out]; rfl
   clear hv hp hdr
   have hbad : ∀ er : Int, er ≠ 0 → atErr n [] ps = er → oneE n ⟨law, ps, T, S, fin⟩ = er := fun er h0 h => by
    unfold oneE; rw [if_pos (by rw [h]; exact h0)]; exact h
   have HBAD := hI hbad
   clear hbad
   by_cases hp0 : p < 0
   ·subst hA
    go_wp2
    go_ret
    exact ⟨by rw [HBAD.out 3 (by decide) (by rw [HE.out, HS.out, if_pos (.inl hp0)])]; rfl, HB.out⟩
   ·subst hA
    go_wp2_with fail
    refine (mlen_c b An n cn wr ((HB.out.cell (p := ⟨b, 0, none⟩) hbl).trans HC.out)).mono ?_
    rintro e w1 ⟨rfl, hb1⟩
    have HK1 := hI ((hb1.block B0 (lt_of_block HK.out)).trans HK.out)
    have c1' := cell_at_heap (j := 1) HK1.out rfl
    have HB1 := hI (HB.out.trans (hb1.mono HB.out.size))
    have hcv1 := (hb1.cell (p := ⟨pb, po + k, none⟩) hpb).trans hcv
    clear hb1 HK HB c1 hcv
    by_cases hpn : (n : Int) ≤ p
    ·go_wp2
     go_ret
     exact ⟨by rw [HBAD.out 3 (by decide) (by rw [HE.out, HS.out, if_pos (.inr hpn)])]; rfl, HB1.out⟩
    ·have hkc : k ≤ cw := by omega
     have HTK := hI (Cells.take (HP.out.below HB1.out rr) (k := k) hk)
     go_wp2_with fail
     refine (conN_c (some ⟨pb, po, none⟩) k cw (ps.take k) p w1 (by have := HTK.out; rw [Nat.mul_one, ← List.map_take] at this; exact this)).mono ?_
     rintro e w2 ⟨rfl, hb2⟩
     have HK2 := hI ((hb2.block B0 (lt_of_block HK1.out)).trans HK1.out)
     have HB2 := hI (HB1.out.trans (hb2.mono HB1.out.size))
     clear hb2 HK1 HB1 c1' hcv1 HTK
     cases han : (ps.take k).any (fun b => decide (b = p)) with
     | true =>
      have HA := hI han; clear han
      go_wp2
      go_ret
      exact ⟨by rw [HBAD.out 6 (by decide) (by rw [HE.out, HS.out, if_neg (by omega), if_pos HA.out])]; rfl, HB2.out⟩
     | false =>
      have HA := hI han; clear han
      go_wp2_with fail
      go_roundw
      case rel => exact ⟨k + 1, by omega, by simp, by
       show _ = _
       rw [HE.out, HS.out, if_neg (by omega), if_neg (by rw [HA.out]; simp)], HK2.out, HB2.out⟩
      case measure => simp [intOf]; omega
  ·obtain rfl : k = nw := by omega
   have HZ : Hid (atErr n [] ps = 0) := by
    show _ = _
    rw [HE.out, List.drop_eq_nil_of_le (by rw [HL.out]; exact rr)]; rfl
   have HV : Hid (oneE n ⟨law, ps, T, S, fin⟩ = if min T S < 0 ∨ 1073741824 < max T S then 2 else 0) := by
    show _ = _
    unfold oneE; rw [if_neg (by rw [HZ.out]; simp)]
   have c2 := cell_at_heap (j := 2) HK.out rfl
   have c3 := cell_at_heap (j := 3) HK.out rfl
   clear HE
   by_cases h1 : min T S < 0
   ·go_wp2
    go_ret
    exact ⟨by rw [HV.out, if_pos (.inl h1)]; rfl, HB.out⟩
   ·by_cases h2 : 1073741824 < max T S
    ·go_wp2
     go_ret
     exact ⟨by rw [HV.out, if_pos (.inr h2)]; rfl, HB.out⟩
    ·have h3 : ¬ (min T S < 0 ∨ 1073741824 < max T S) := by omega
     have H3 := hI h3
     clear h3
     go_wp2
     go_ret
     exact ⟨by rw [HV.out, if_neg H3.out]; rfl, HB.out⟩
theorem drop_cons {α : Type} {l : List α} {k : Nat} {x : α} (h : l[k]? = some x) : l.drop k = x :: l.drop (k + 1) := by
 have hk := (List.getElem?_eq_some_iff.1 h).1
 rw [List.drop_eq_getElem_cons hk]
 congr 1
 exact (List.getElem?_eq_some_iff.1 h).2
theorem wcheck38_c (b n : Nat) (rs : List RoadN) (Ax : Option Addr) (nx cx : Nat) (xs : List LawR) (A : Option Addr) (m c : Nat) (ys : List WaveR) (w : World) (hm : MapAt w b n rs) (hx : IsLaws w Ax nx cx xs) (hy : IsWaves w A m c ys) (hT : TabOK w) :
  Calls Tryz.prog 37 #[.pointer (some ⟨b, 0, none⟩), .slice Ax nx cx, .slice A m c] w fun e w' => e = .returned (.int .i64 (waveE n (lawsD xs) (wavesD ys))) ∧ Below w.heap.size w w' := by
 obtain ⟨An, cn, mb, Ar, cr, Aq, cq, c0, c1, c2, c3⟩ := hm.cells
 have hbl := hm.lt
 have hmx := hy.max
 have hnx := hx.max
 have HM := hI hm; have HX := hI hx; have HY := hI hy; have HT := hI hT; have HC := hI c0
 have HLX : Hid ((lawsD xs).length = nx) := by show _ = _; rw [lawsD, List.length_map]; exact hx.len
 have HLY : Hid ((wavesD ys).length = m) := by show _ = _; rw [wavesD, List.length_map]; exact hy.len
 clear hm hx hy hT c0 c1 c2 c3
 go_enter Tryz.func37, Tryz.ntmps37
 go_wp2_with fail
 refine (mlen_c b An n cn w HC.out).mono ?_
 rintro e w1 ⟨rfl, hb1⟩
 have HB1 := hI hb1; clear hb1
 by_cases hn0 : n = 0
 ·have HV : Hid (waveE n (lawsD xs) (wavesD ys) = 1) := by show _ = _; unfold waveE; rw [if_pos hn0]
  have hz : (n : Int) = 0 := by omega
  go_wp2
  go_ret
  exact ⟨by rw [HV.out]; rfl, HB1.out⟩
 ·have hz : ((n : Int) == 0) = false := by simpa using hn0
  have HV : Hid (waveE n (lawsD xs) (wavesD ys) = if lawsE (lawsD xs) ≠ 0 then lawsE (lawsD xs) else if 64 < (wavesD ys).length then 12 else eachE n (lawsD xs).length (wavesD ys)) := by show _ = _; unfold waveE; rw [if_neg hn0]
  go_wp2_with fail
  refine (dCheck_c Ax nx cx xs w1 (HX.out.below HB1.out rr)).mono ?_
  obtain ⟨er, her⟩ : ∃ er, er = lawsE (lawsD xs) := ⟨_, rfl⟩
  rw [← her]
  rintro e w2 ⟨rfl, hb2⟩
  have HB2 := hI (HB1.out.trans (hb2.mono HB1.out.size))
  have HER := hI her
  clear hb2 HB1 her
  by_cases he0 : er = 0
  ·have he1 : (er != 0) = false := by simp [he0]
   have HV2 : Hid (waveE n (lawsD xs) (wavesD ys) = if 64 < m then 12 else eachE n nx (wavesD ys)) := by
    show _ = _
    rw [HV.out, if_neg (by rw [← HER.out]; simpa using he0), HLX.out, HLY.out]
   clear HV HER he0
   by_cases hm64 : 64 < m
   ·have hm64' : (64 : Int) < (m : Int) := by omega
    go_wp2
    go_ret
    exact ⟨by rw [HV2.out, if_pos hm64]; rfl, HB2.out⟩
   ·have hm64' : ¬ (64 : Int) < (m : Int) := by omega
    have HV3 : Hid (waveE n (lawsD xs) (wavesD ys) = eachE n nx (wavesD ys)) := by show _ = _; rw [HV2.out, if_neg hm64]
    clear HV2
    go_wp2_with fail
    go_loopw [24] (fun i wr => ∃ k : Nat, k ≤ m ∧ i = .int .i64 (k : Int) ∧ Hid (eachE n nx (wavesD ys) = eachE n nx ((wavesD ys).drop k)) ∧ Hid (Below w.heap.size w wr)) (fun i _ => m - (intOf i).toNat)
    case atStart => exact ⟨0, Nat.zero_le _, rfl, rfl, HB2.out⟩
    case round =>
     obtain ⟨k, hk, rfl, HE, HB⟩ := hrel
     clear HB2
     by_cases hlt : k < m
     ·have hkm : (k : Int) < (m : Int) := by omega
      obtain ⟨x, hx⟩ := (HY.out.below HB.out).get hlt
      obtain ⟨yb, yo, hA, hyb, hat, k0, k1, k2, k3, k4⟩ := (HY.out.below HB.out).at_ hx
      subst hA
      have hxd : (wavesD ys)[k]? = some x.d := by rw [wavesD, List.getElem?_map, hx]; rfl
      have HS : Hid (eachE n nx ((wavesD ys).drop k) = if x.d.law < 0 ∨ (nx : Int) ≤ x.d.law then 3 else if oneE n x.d ≠ 0 then oneE n x.d else eachE n nx ((wavesD ys).drop (k + 1))) := by
       show _ = _; rw [drop_cons hxd]; rfl
      have HAT := hI hat
      clear hx hxd hat
      obtain ⟨⟨law, ps, T, S, fin⟩, Aw, nw, cw⟩ := x
      simp only at k0 k1 k2 k3 k4
      have hlu := HAT.out.u.law
      simp only at hlu
      have HBa : Hid (Below w.heap.size w (wr.alloc (.cells #[.int .i64 law, .slice Aw nw cw, .int .i64 T, .int .i64 S, .int .i64 fin] 38))) := HB.out.alloc HB.out.size _
      have hsz := HB.out.size
      by_cases hl0 : law < 0
      ·go_wp2
       go_ret
       exact ⟨by rw [HV3.out, HE.out, HS.out, if_pos (.inl hl0)]; rfl, HBa.out⟩
      ·by_cases hln : (nx : Int) ≤ law
       ·go_wp2
        go_ret
        exact ⟨by rw [HV3.out, HE.out, HS.out, if_pos (.inr hln)]; rfl, HBa.out⟩
       ·have HS2 : Hid (eachE n nx ((wavesD ys).drop k) = if oneE n ⟨law, ps, T, S, fin⟩ ≠ 0 then oneE n ⟨law, ps, T, S, fin⟩ else eachE n nx ((wavesD ys).drop (k + 1))) := by
         show _ = _
         have := HS.out
         rw [if_neg (by show ¬ (law < 0 ∨ (nx : Int) ≤ law); omega)] at this
         exact this
        clear HS
        go_wp2_with fail
        refine (oneE_c b An n cn ⟨⟨law, ps, T, S, fin⟩, Aw, nw, cw⟩ _ ((HBa.out.cell (p := ⟨b, 0, none⟩) hbl).trans HC.out) (Nat.lt_of_lt_of_le hbl HBa.out.size) (HAT.out.below ((Below.refl _ wr).alloc rr _))).mono ?_
        obtain ⟨e1, he1e⟩ : ∃ e1, e1 = oneE n ⟨law, ps, T, S, fin⟩ := ⟨_, rfl⟩
        rw [← he1e]
        rintro e w3 ⟨rfl, hb3⟩
        have HB3 := hI (HBa.out.trans (hb3.mono HBa.out.size))
        have HE1 := hI he1e
        clear hb3 HBa HB he1e hsz
        by_cases h10 : e1 = 0
        ·have h11 : (e1 != 0) = false := by simp [h10]
         have HS3 : Hid (eachE n nx ((wavesD ys).drop k) = eachE n nx ((wavesD ys).drop (k + 1))) := by
          show _ = _
          rw [HS2.out, if_neg (by rw [← HE1.out]; simpa using h10)]
         clear HS2 HE1 h10
         go_wp2_with fail
         go_roundw
         case rel => exact ⟨k + 1, by omega, by simp, by show _ = _; rw [HE.out, HS3.out], HB3.out⟩
         case measure => simp [intOf]; omega
        ·have h11 : (e1 != 0) = true := by simpa using h10
         have HS3 : Hid (eachE n nx ((wavesD ys).drop k) = e1) := by
          show _ = _
          rw [HS2.out, if_pos (by rw [← HE1.out]; exact h10), HE1.out]
         clear HS2 HE1 h10
         go_wp2
         go_ret
         exact ⟨by rw [HV3.out, HE.out, HS3.out]; rfl, HB3.out⟩
     ·obtain rfl : k = m := by omega
      go_wp2
      go_ret
      exact ⟨by rw [HV3.out, HE.out, List.drop_eq_nil_of_le (by rw [HLY.out]; exact rr)]; rfl, HB.out⟩
  ·have he1 : (er != 0) = true := by simpa using he0
   have HV2 : Hid (waveE n (lawsD xs) (wavesD ys) = er) := by
    show _ = _
    rw [HV.out, if_pos (by rw [← HER.out]; exact he0), HER.out]
   clear HV HER he0
   go_wp2
   go_ret
   exact ⟨by rw [HV2.out]; rfl, HB2.out⟩
def RetI (w : World) (r : Int × List Int) (e : Ending) (w' : World) : Prop :=
 ∃ A m c, e = .returned (.tuple #[.slice A m c, .int .i64 r.1]) ∧ IsInts w' A m c r.2 ∧ Below w.heap.size w w'
theorem RetI.bad {w w' : World} {r : Int × List Int} {er : Int} (h : r = (er, [])) (hb : Below w.heap.size w w') : RetI w r (.returned (.tuple #[.slice none 0 0, .int .i64 er])) w' := by
 subst h; exact ⟨none, 0, 0, rfl, Cells.nil _ _, hb⟩
theorem rowI_ints {n g : Nat} {f : Nat → Int} {t : TypeId} {w : World} (hg : w.heap[g]? = some (.cells (rowI n f) t (0, 0))) (hn : n ≤ 4096) : IsInts w (some ⟨g, 0, none⟩) n n ((List.range n).map f) :=
 ⟨by simp, rr, by unfold maxLen; omega, (fun h => by cases h), fun h => ⟨g, 0, rfl, lt_of_block hg, fun j v hv => by
  rw [Nat.zero_add]
  refine cell_at_heap hg ?_
  unfold rowI
  simpa using hv⟩⟩
theorem arrive_c (b n : Nat) (rs : List RoadN) (x : WaveR) (w : World) (hm : MapAt w b n rs) (hx : WaveAt w x) :
  Calls Tryz.prog 20 #[.pointer (some ⟨b, 0, none⟩), waveV x] w (RetI w (arriveM n rs x.d)) := by
 obtain ⟨An, cn, mb, Ar, cr, Aq, cq, c0, c1, c2, c3⟩ := hm.cells
 have hbl := hm.lt
 have hn128 := hm.few
 obtain ⟨⟨law, ps, T, S, fin⟩, Aw, nw, cw⟩ := x
 have HM := hI hm; have HX := hI hx; have HC := hI c0
 clear hm hx c0 c1 c2 c3
 have kb : (w.alloc (.cells #[.int .i64 law, .slice Aw nw cw, .int .i64 T, .int .i64 S, .int .i64 fin] 38)).heap[w.heap.size]? = some (.cells #[.int .i64 law, .slice Aw nw cw, .int .i64 T, .int .i64 S, .int .i64 fin] 38 (0, 0)) := hpt
 have kB : Below w.heap.size w (w.alloc (.cells #[.int .i64 law, .slice Aw nw cw, .int .i64 T, .int .i64 S, .int .i64 fin] 38)) := bel
 go_enter Tryz.func20, Tryz.ntmps20
 go_wp2_with fail
 obtain ⟨B0, hB0⟩ : ∃ B0, B0 = w.heap.size := ⟨_, rfl⟩
 rw [← hB0] at kb ⊢
 have HK0 := hI kb
 have HB0 := hI kB
 have hw0 : w.heap.size ≤ B0 := Nat.le_of_eq hB0.symm
 generalize w.alloc (.cells #[.int .i64 law, .slice Aw nw cw, .int .i64 T, .int .i64 S, .int .i64 fin] 38) = W0 at *
 clear hB0 kb kB
 refine (mlen_c b An n cn W0 ((HB0.out.cell (p := ⟨b, 0, none⟩) hbl).trans HC.out)).mono ?_
 rintro e w1 ⟨rfl, hb1⟩
 have HK1 := hI ((hb1.block B0 (lt_of_block HK0.out)).trans HK0.out)
 have HB1 := hI (HB0.out.trans (hb1.mono HB0.out.size))
 clear hb1 HK0 HB0
 by_cases hn0 : n = 0
 ·have HV : Hid (arriveM n rs ⟨law, ps, T, S, fin⟩ = (1, [])) := by show _ = _; unfold arriveM; rw [if_pos hn0]
  have hz : (n : Int) = 0 := by omega
  go_wp2
  go_ret2
  exact RetI.bad HV.out HB1.out
 ·have hz : ((n : Int) == 0) = false := by simpa using hn0
  have HV : Hid (arriveM n rs ⟨law, ps, T, S, fin⟩ = if oneE n ⟨law, ps, T, S, fin⟩ ≠ 0 then (oneE n ⟨law, ps, T, S, fin⟩, []) else (0, (List.range n).map fun a => arrI (arrM n rs ⟨law, ps, T, S, fin⟩ a))) := by show _ = _; unfold arriveM; rw [if_neg hn0]
  have k0 := cell_at_heap (j := 0) HK1.out rfl
  have k1 := cell_at_heap (j := 1) HK1.out rfl
  have k2 := cell_at_heap (j := 2) HK1.out rfl
  have k3 := cell_at_heap (j := 3) HK1.out rfl
  have k4 := cell_at_heap (j := 4) HK1.out rfl
  go_wp2_with fail
  clear k0 k1 k2 k3 k4
  refine (oneE_c b An n cn ⟨⟨law, ps, T, S, fin⟩, Aw, nw, cw⟩ w1 ((HB1.out.cell (p := ⟨b, 0, none⟩) hbl).trans HC.out) (Nat.lt_of_lt_of_le hbl HB1.out.size) (HX.out.below HB1.out)).mono ?_
  obtain ⟨e1, he1e⟩ : ∃ e1, e1 = oneE n ⟨law, ps, T, S, fin⟩ := ⟨_, rfl⟩
  rw [← he1e]
  rintro e w2 ⟨rfl, hb2⟩
  have HK2 := hI ((hb2.block B0 (lt_of_block HK1.out)).trans HK1.out)
  have HB2 := hI (HB1.out.trans (hb2.mono HB1.out.size))
  have HE1 := hI he1e
  clear hb2 HK1 HB1 he1e
  by_cases h10 : e1 = 0
  ·have h11 : (e1 != 0) = false := by simp [h10]
   have HE0 : Hid (oneE n ⟨law, ps, T, S, fin⟩ = 0) := by show _ = _; rw [← HE1.out, h10]
   have HV2 : Hid (arriveM n rs ⟨law, ps, T, S, fin⟩ = (0, (List.range n).map fun a => arrI (arrM n rs ⟨law, ps, T, S, fin⟩ a))) := by show _ = _; rw [HV.out, if_neg (by rw [HE0.out]; simp)]
   clear HV HE1 h10
   go_wp2_with fail
   refine (mlen_c b An n cn w2 ((HB2.out.cell (p := ⟨b, 0, none⟩) hbl).trans HC.out)).mono ?_
   rintro e w3 ⟨rfl, hb3⟩
   have HK3 := hI ((hb3.block B0 (lt_of_block HK2.out)).trans HK2.out)
   have HB3 := hI (HB2.out.trans (hb3.mono HB2.out.size))
   clear hb3 HK2 HB2
   have hmk := fun w => run_make_row' (P := Tryz.prog) 42 2 (.int .i64 0) 8 Tryz.underlying42 i64_info rfl .i64 .i64 n (by omega) (by omega) w
   have hnm : n ≤ maxLen := by unfold maxLen; omega
   go_wp2_with fail
   clear hmk
   rw [made_rowI]
   have HG0 : Hid ((w3.alloc (.cells (rowI n fun _ => 0) 2)).heap[w3.heap.size]? = some (.cells (rowI n fun _ => 0) 2 (0, 0))) := heap_new_at rfl
   have HK4 := hI ((heap_old_at (lt_of_block HK3.out) : (w3.alloc (.cells (rowI n fun _ => 0) 2)).heap[B0]? = _).trans HK3.out)
   have HB4 : Hid (Below w.heap.size w (w3.alloc (.cells (rowI n fun _ => 0) 2))) := HB3.out.alloc HB3.out.size _
   have hB3s := HB3.out.size
   have hne : B0 < w3.heap.size := lt_of_block HK3.out
   obtain ⟨g, hg⟩ : ∃ g, g = w3.heap.size := ⟨_, rfl⟩
   rw [← hg] at HG0 hne hB3s ⊢
   generalize w3.alloc (.cells (rowI n fun _ => 0) 2) = w4 at *
   clear hg HK3 HB3
   go_loopw [8, 23] (fun _ i wr => ∃ k : Nat, k ≤ n ∧ i = .int .i64 (k : Int) ∧ Hid (wr.heap[g]? = some (.cells (rowI n fun v => if v < k then arrI (arrM n rs ⟨law, ps, T, S, fin⟩ v) else 0) 2 (0, 0))) ∧ Hid (wr.heap[B0]? = some (.cells #[.int .i64 law, .slice Aw nw cw, .int .i64 T, .int .i64 S, .int .i64 fin] 38 (0, 0))) ∧ Hid (Below w.heap.size w wr)) (fun _ i _ => n - (intOf i).toNat)
   case atStart => exact ⟨0, Nat.zero_le _, rfl, by show _ = _; simpa using HG0.out, HK4.out, HB4.out⟩
   case round =>
    obtain ⟨k, hk, rfl, HG, HK, HB⟩ := hrel
    clear HG0 HK4 HB4
    by_cases hlt : k < n
    ·have hkn : (k : Int) < (n : Int) := by omega
     have k0 := cell_at_heap (j := 0) HK.out rfl
     have k1 := cell_at_heap (j := 1) HK.out rfl
     have k2 := cell_at_heap (j := 2) HK.out rfl
     have k3 := cell_at_heap (j := 3) HK.out rfl
     have k4 := cell_at_heap (j := 4) HK.out rfl
     go_wp2_with fail
     clear k0 k1 k2 k3 k4
     refine (at_c b n rs ⟨⟨law, ps, T, S, fin⟩, Aw, nw, cw⟩ k wr (HM.out.below HB.out) (HX.out.below HB.out) HE0.out hlt).mono ?_
     obtain ⟨t, ht⟩ : ∃ t, t = arrI (arrM n rs ⟨law, ps, T, S, fin⟩ k) := ⟨_, rfl⟩
     rw [← ht]
     rintro e w5 ⟨rfl, hb5⟩
     have HG5 := hI ((hb5.block g (lt_of_block HG.out)).trans HG.out)
     have HK5 := hI ((hb5.block B0 (lt_of_block HK.out)).trans HK.out)
     have HB5 := hI (HB.out.trans (hb5.mono HB.out.size))
     have HTT := hI ht
     clear hb5 HG HK HB ht
     have cg := rowI_cell HG5.out hlt
     have fg : w5.frozen? ⟨g, k, none⟩ = false := by simp [World.frozen?, HG5.out]
     have HGs : Hid ((w5.setCell ⟨g, k, none⟩ (.int .i64 t)).heap[g]? = some (.cells (rowI n fun v => if v < k + 1 then arrI (arrM n rs ⟨law, ps, T, S, fin⟩ v) else 0) 2 (0, 0))) := by
      show _ = _
      rw [heap_setCell_same HG5.out, rowI_set (g := fun v => if v < k + 1 then arrI (arrM n rs ⟨law, ps, T, S, fin⟩ v) else 0) (by simp [HTT.out]) fun v _ hv => by
       by_cases e : v < k
       ·simp [e, Nat.lt_succ_of_lt e]
       ·have : ¬ v < k + 1 := by omega
        simp [e, this]]
     have HKs := hI ((Below.heap_setCell w5 ⟨g, k, none⟩ (.int .i64 t) B0 (by show B0 ≠ g; omega)).trans HK5.out)
     have HBs := hI (HB5.out.setCell (p := ⟨g, k, none⟩) (by show w.heap.size ≤ g; omega) (.int .i64 t))
     go_wp2_with fail
     go_roundw
     case rel => exact ⟨k + 1, by omega, by simp, HGs.out, HKs.out, HBs.out⟩
     case measure => simp [intOf]; omega
    ·obtain rfl : k = n := by omega
     go_wp2
     go_ret2
     have hr := rowI_ints HG.out (by omega)
     refine ⟨_, _, _, by rw [HV2.out]; rfl, ?_, HB.out⟩
     rw [HV2.out]
     show IsInts _ _ _ _ ((List.range k).map fun a => arrI (arrM k rs ⟨law, ps, T, S, fin⟩ a))
     rw [show ((List.range k).map fun a => arrI (arrM k rs ⟨law, ps, T, S, fin⟩ a)) = (List.range k).map fun v => if v < k then arrI (arrM k rs ⟨law, ps, T, S, fin⟩ v) else 0 from List.map_congr_left fun v hv => by rw [if_pos (List.mem_range.1 hv)]]
     exact hr
  ·have h11 : (e1 != 0) = true := by simpa using h10
   have HV2 : Hid (arriveM n rs ⟨law, ps, T, S, fin⟩ = (e1, [])) := by show _ = _; rw [HV.out, if_pos (by rw [← HE1.out]; exact h10), HE1.out]
   clear HV HE1 h10
   go_wp2
   go_ret2
   exact RetI.bad HV2.out HB2.out
theorem RetI.own {w W : World} {r : Int × List Int} {B : Nat} {v : Value} {l : List Int} (hr : r = (0, l)) (h : W.ownsRow B 3 1 v l.length (l.map (Value.int .i64))) (hb : Below w.heap.size w W) : RetI w r (.returned (.tuple #[v, .int .i64 0])) W := by
 subst hr
 obtain ⟨A, c, rfl⟩ := own_form h
 exact ⟨A, _, c, rfl, Cells.of_own h (by decide), hb⟩
def NumW (w : World) (B : Nat) (v : Value) (l : List Int) : Prop := w.ownsRow B 3 1 v l.length (l.map (Value.int .i64)) ∧ B ≤ w.heap.size
theorem NumW.nil {w : World} {B : Nat} (h : B ≤ w.heap.size) : NumW w B (.slice none 0 0) [] := ⟨World.ownsRow_nil _ _ _ _, h⟩
theorem NumW.below {w w' : World} {B : Nat} {v : Value} {l : List Int} (h : NumW w B v l) (hb : Below w.heap.size w w') : NumW w' B v l :=
 ⟨own_heap h.1 fun k e => hb.block k (h.1.lt k e).2, Nat.le_trans h.2 hb.size⟩
theorem NumW.push {w W : World} {B : Nat} {v v' : Value} {l : List Int} {x : Int} (h : NumW w B v l) (hown : W.ownsRow B 3 1 v' (l.length + 1) (l.map (Value.int .i64) ++ [.int .i64 x])) (hg : w.grownBy W v.ownBlock) : NumW W B v' (l ++ [x]) :=
 ⟨by rw [List.length_append, List.map_append]; exact hown, Nat.le_trans h.2 hg.size⟩
theorem NumW.grow {w W w0 : World} {B : Nat} {v : Value} {l : List Int} (h : NumW w B v l) (hb : Below w0.heap.size w0 w) (hB : w0.heap.size ≤ B) (hg : w.grownBy W v.ownBlock) : Below w0.heap.size w0 W :=
 hb.grown hg hb.size fun k e => Nat.le_trans hB (h.1.lt k e).1
theorem NumW.form {w : World} {B : Nat} {v : Value} {l : List Int} (h : NumW w B v l) : ∃ A c, v = .slice A l.length c := own_form h.1
theorem relics_c (b n : Nat) (rs : List RoadN) (Ax : Option Addr) (nx cx : Nat) (xs : List LawR) (A : Option Addr) (m c : Nat) (ys : List WaveR) (kk : Int) (w : World) (hm : MapAt w b n rs) (hx : IsLaws w Ax nx cx xs) (hy : IsWaves w A m c ys) (hT : TabOK w) :
  Calls Tryz.prog 41 #[.pointer (some ⟨b, 0, none⟩), .slice Ax nx cx, .slice A m c, .int .i64 kk] w (RetI w (relicsM n rs (lawsD xs) (wavesD ys) kk)) := by
 obtain ⟨An, cn, mb, Ar, cr, Aq, cq, c0, c1, c2, c3⟩ := hm.cells
 have hbl := hm.lt
 have hn128 := hm.few
 have hmx := hy.max
 have HM := hI hm; have HX := hI hx; have HY := hI hy; have HT := hI hT; have HC := hI c0
 have HLY : Hid ((wavesD ys).length = m) := by show _ = _; rw [wavesD, List.length_map]; exact hy.len
 clear hm hx hy hT c0 c1 c2 c3
 go_enter Tryz.func41, Tryz.ntmps41
 go_wp2_with fail
 refine (wcheck38_c b n rs Ax nx cx xs A m c ys w HM.out HX.out HY.out HT.out).mono ?_
 obtain ⟨er, her⟩ : ∃ er, er = waveE n (lawsD xs) (wavesD ys) := ⟨_, rfl⟩
 rw [← her]
 rintro e w1 ⟨rfl, hb1⟩
 have HB1 := hI hb1; have HER := hI her
 clear hb1 her
 by_cases he0 : er = 0
 ·have he1 : (er != 0) = false := by simp [he0]
  have HW0 : Hid (waveE n (lawsD xs) (wavesD ys) = 0) := by show _ = _; rw [← HER.out, he0]
  have HV : Hid (relicsM n rs (lawsD xs) (wavesD ys) kk = if kk < 0 ∨ (m : Int) ≤ kk then (3, []) else (0, ((List.range n).filter fun a => (tAt n rs (wavesD ys) a kk.toNat).isNone).map fun (a : Nat) => (a : Int))) := by
   show _ = _; unfold relicsM; rw [if_neg (by rw [HW0.out]; simp), HLY.out]
  clear HER he0
  by_cases hk0 : kk < 0
  ·have HV1 : Hid (relicsM n rs (lawsD xs) (wavesD ys) kk = (3, [])) := by show _ = _; rw [HV.out, if_pos (.inl hk0)]
   go_wp2
   go_ret2
   exact RetI.bad HV1.out HB1.out
  ·by_cases hkm : (m : Int) ≤ kk
   ·have HV1 : Hid (relicsM n rs (lawsD xs) (wavesD ys) kk = (3, [])) := by show _ = _; rw [HV.out, if_pos (.inr hkm)]
    go_wp2
    go_ret2
    exact RetI.bad HV1.out HB1.out
   ·obtain ⟨k, rfl⟩ : ∃ k : Nat, kk = k := ⟨kk.toNat, by omega⟩
    have hkm' : k < m := by omega
    obtain ⟨P, hP⟩ : ∃ P : Nat → Bool, P = fun a => (tAt n rs (wavesD ys) a k).isNone := ⟨_, rfl⟩
    have HV1 : Hid (relicsM n rs (lawsD xs) (wavesD ys) k = (0, ((List.range n).filter P).map fun (a : Nat) => (a : Int))) := by
     show _ = _; rw [HV.out, if_neg (by omega), hP]; rfl
    have HP := hI hP
    clear HV hP
    have hkm2 : (k : Int) < (m : Int) := by omega
    go_wp2_with fail
    refine (mlen_c b An n cn w1 ((HB1.out.cell (p := ⟨b, 0, none⟩) hbl).trans HC.out)).mono ?_
    rintro e w2 ⟨rfl, hb2⟩
    have HB2 := hI (HB1.out.trans (hb2.mono HB1.out.size))
    clear hb2 HB1
    have hB2s := HB2.out.size
    obtain ⟨B, hB⟩ : ∃ B, B = w2.heap.size := ⟨_, rfl⟩
    have hwB : w.heap.size ≤ B := by omega
    have HN0 : Hid (NumW w2 B (.slice none 0 0) []) := NumW.nil (by omega)
    clear hB hB2s
    go_wp2_with fail
    go_loopw [11, 30] (fun s11 i wr => ∃ j : Nat, j ≤ n ∧ i = .int .i64 (j : Int) ∧ Hid (NumW wr B s11 (((List.range j).filter P).map fun (a : Nat) => (a : Int))) ∧ Hid (Below w.heap.size w wr)) (fun _ i _ => n - (intOf i).toNat)
    case atStart => exact ⟨0, Nat.zero_le _, rfl, HN0.out, HB2.out⟩
    case round =>
     obtain ⟨j, hj, rfl, HN, HB⟩ := hrel
     clear HN0 HB2
     by_cases hlt : j < n
     ·have hjn : (j : Int) < (n : Int) := by omega
      obtain ⟨x, hx⟩ := (HY.out.below HB.out).get hkm'
      obtain ⟨yb, yo, hA, hyb, hat, k0, k1, k2, k3, k4⟩ := (HY.out.below HB.out).at_ hx
      subst hA
      have hxd : (wavesD ys)[k]? = some x.d := by rw [wavesD, List.getElem?_map, hx]; rfl
      have HTA : Hid (tAt n rs (wavesD ys) j k = arrM n rs x.d j) := by show _ = _; unfold tAt; rw [hxd]; rfl
      have H1 : Hid (oneE n x.d = 0) := ((wave_ok HW0.out).2.2.2 x.d (List.mem_of_getElem? hxd)).2.2
      have HAT := hI hat
      have HPJ : Hid (P j = (arrM n rs x.d j).isNone) := by show _ = _; rw [HP.out]; show (tAt n rs (wavesD ys) j k).isNone = _; rw [HTA.out]
      clear hx hxd hat
      obtain ⟨⟨law, ps, T, S, fin⟩, Aw, nw, cw⟩ := x
      simp only at k0 k1 k2 k3 k4
      go_wp2_with fail
      clear k0 k1 k2 k3 k4
      refine (at_c b n rs ⟨⟨law, ps, T, S, fin⟩, Aw, nw, cw⟩ j wr (HM.out.below HB.out) HAT.out H1.out hlt).mono ?_
      obtain ⟨t, ht⟩ : ∃ t, t = arrM n rs ⟨law, ps, T, S, fin⟩ j := ⟨_, rfl⟩
      have HPT : Hid (P j = t.isNone) := by show _ = _; rw [HPJ.out, ht]
      rw [← ht]
      rintro e w3 ⟨rfl, hb3⟩
      have HN3 := hI (HN.out.below hb3)
      have HB3 := hI (HB.out.trans (hb3.mono HB.out.size))
      clear hb3 HN HB ht HPJ HTA H1 HAT hyb
      have HFI : Hid ((List.range (j + 1)).filter P = (List.range j).filter P ++ (if P j = true then [j] else [])) := by
       show _ = _; rw [List.range_succ, List.filter_append]; congr 1
       by_cases h : P j = true
       ·rw [if_pos h, List.filter_cons_of_pos h]; rfl
       ·rw [if_neg h, List.filter_cons_of_neg h]; rfl
      cases t with
      | some t =>
       simp only [arrI]
       have ht1 : ((t : Int) == -1) = false := by simp
       go_wp2_with fail
       go_roundw
       case rel => exact ⟨j + 1, by omega, by simp, by show NumW _ _ _ _; rw [HFI.out, HPT.out]; simpa using HN3.out, HB3.out⟩
       case measure => simp [intOf]; omega
      | none =>
       simp only [arrI]
       obtain ⟨A8, c8, hv8⟩ := HN3.out.form
       subst hv8
       obtain ⟨L, hL⟩ : ∃ L, L = ((List.range j).filter P).map fun (a : Nat) => (a : Int) := ⟨_, rfl⟩
       have hll : L.length ≤ j := by rw [hL, List.length_map]; exact Nat.le_trans (List.length_filter_le _ _) (by simp)
       rw [← hL] at HN3 ⊢
       have HL := hI hL
       clear hL
       have hNa := HN3.out.below ((Below.refl _ w3).alloc rr (.cells #[.int .i64 (j : Int)] 3))
       have HNa := hI hNa
       have hBa := hNa.2
       have HBa : Hid (Below w.heap.size w (w3.alloc (.cells #[.int .i64 (j : Int)] 3))) := HB3.out.alloc HB3.out.size _
       clear hNa
       go_wp2_with (at_builtin; refine append_int rfl (.tmp 41) (.tmp 43) rfl B (.slice A8 L.length c8) L.length (L.map (Value.int .i64)) rfl HNa.out.1 ⟨w3.heap.size, 0, none⟩ 1 (.int .i64 (j : Int)) rfl (cell_one_new _ _ _) rfl (by omega) hBa ?hc)
       case hc =>
        intro v' w4 hown hg _
        have HN4 := hI (HNa.out.push hown hg)
        have HB4 := hI (HNa.out.grow HBa.out hwB hg)
        clear hown hg
        go_wp2_with fail
        go_roundw
        case rel => exact ⟨j + 1, by omega, by simp, by show NumW _ _ _ _; rw [HFI.out, HPT.out, if_pos (by rfl), List.map_append, ← HL.out]; exact HN4.out, HB4.out⟩
        case measure => simp [intOf]; omega
     ·obtain rfl : j = n := by omega
      go_wp2
      go_ret2
      exact RetI.own HV1.out HN.out.1 HB.out
 ·have he1 : (er != 0) = true := by simpa using he0
  have HV : Hid (relicsM n rs (lawsD xs) (wavesD ys) kk = (er, [])) := by show _ = _; unfold relicsM; rw [if_pos (by rw [← HER.out]; exact he0), HER.out]
  go_wp2
  go_ret2
  exact RetI.bad HV.out HB1.out
theorem isNaNP_c (x : Int) (w : World) : Calls Tryz.prog 101 #[.int .i64 x] w fun e w' => e = .returned (.bool false) ∧ w' = w := by
 go_enter Tryz.func101, Tryz.ntmps101
 go_wp2
 go_ret
 simp
theorem cmpP_c (x y : Int) (w : World) : Calls Tryz.prog 57 #[.int .i64 x, .int .i64 y] w fun e w' => e = .returned (.int .i64 (cmpQ x y)) ∧ w' = w := by
 go_enter Tryz.func57, Tryz.ntmps57
 by_cases h1 : x < y
 ·have h2 : cmpQ x y = -1 := by unfold cmpQ; rw [if_pos h1]
  rw [h2]
  go_wp2_with (go_at_call 101; refine (isNaNP_c _ _).mono ?_; rintro e w1 ⟨rfl, rfl⟩)
  go_ret
  exact ⟨rfl, rfl⟩
 ·by_cases h2 : y < x
  ·have h3 : cmpQ x y = 1 := by unfold cmpQ; rw [if_neg h1, if_pos h2]
   rw [h3]
   go_wp2_with (go_at_call 101; refine (isNaNP_c _ _).mono ?_; rintro e w1 ⟨rfl, rfl⟩)
   go_ret
   exact ⟨rfl, rfl⟩
  ·have h3 : cmpQ x y = 0 := by unfold cmpQ; rw [if_neg h1, if_neg h2]
   rw [h3]
   go_wp2_with (go_at_call 101; refine (isNaNP_c _ _).mono ?_; rintro e w1 ⟨rfl, rfl⟩)
   go_ret
   exact ⟨rfl, rfl⟩
def orQ (x y : Int) : Int := if x ≠ 0 then x else y
theorem orQ_c (x y : Int) (b : Nat) (w : World) (h0 : w.cell? ⟨b, 0, none⟩ = some (.int .i64 x)) (h1 : w.cell? ⟨b, 1, none⟩ = some (.int .i64 y)) :
  Calls Tryz.prog 78 #[.slice (some ⟨b, 0, none⟩) 2 2] w fun e w' => e = .returned (.int .i64 (orQ x y)) ∧ w' = w := by
 go_enter Tryz.func78, Tryz.ntmps78
 go_wp2
 go_loopw [5, 8] (fun _ i wr => ∃ k : Nat, k ≤ 2 ∧ i = .int .i64 k ∧ (0 < k → x = 0) ∧ (1 < k → y = 0) ∧ wr = w) (fun _ i _ => 2 - (intOf i).toNat)
 case atStart => exact ⟨0, by omega, rfl, by omega, by omega, rfl⟩
 case round =>
  obtain ⟨k, hk, rfl, hx, hy, rfl⟩ := hrel
  have hk3 : k = 0 ∨ k = 1 ∨ k = 2 := by omega
  rcases hk3 with rfl | rfl | rfl
  ·by_cases h : x = 0
   ·subst h
    go_wp2
    go_roundw
    case rel => exact ⟨1, by omega, rfl, by simp, by simp, by simp⟩
    case measure => simp [intOf]
   ·have hb : (x != 0) = true := by simpa using h
    go_wp2
    go_ret
    exact ⟨by unfold orQ; rw [if_pos h]; rfl, rfl⟩
  ·have hx0 := hx (by omega)
   subst hx0
   by_cases h : y = 0
   ·subst h
    go_wp2
    go_roundw
    case rel => exact ⟨2, by omega, rfl, by simp, by simp, by simp⟩
    case measure => simp [intOf]
   ·have hb : (y != 0) = true := by simpa using h
    go_wp2
    go_ret
    exact ⟨by unfold orQ; rw [if_neg (by simp)]; rfl, rfl⟩
  ·have hx0 := hx (by omega)
   have hy0 := hy (by omega)
   subst hx0 hy0
   go_wp2
   go_ret
   exact ⟨rfl, rfl⟩
def rankO : Option Nat → Int
 | none => 9223372036854775807
 | some t => t
theorem rank_c (o : Option Nat) (w : World) : Calls Tryz.prog 77 #[.int .i64 (arrI o)] w fun e w' => e = .returned (.int .i64 (rankO o)) ∧ w' = w := by
 cases o with
 | none =>
  simp only [arrI]
  go_enter Tryz.func77, Tryz.ntmps77
  go_wp2
  go_ret
  exact ⟨rfl, rfl⟩
 | some t =>
  have h : ((t : Int) == -1) = false := by simp
  simp only [arrI]
  go_enter Tryz.func77, Tryz.ntmps77
  go_wp2
  go_ret
  exact ⟨rfl, rfl⟩
theorem by_c (o : Option Nat) (now : Int) (w : World) : Calls Tryz.prog 104 #[.int .i64 (arrI o), .int .i64 now] w fun e w' => e = .returned (.bool (byNow now o)) ∧ w' = w := by
 cases o with
 | none =>
  simp only [arrI]
  go_enter Tryz.func104, Tryz.ntmps104
  go_wp2
  go_ret
  exact ⟨rfl, rfl⟩
 | some t =>
  have h : ((t : Int) != -1) = true := by simp
  simp only [arrI]
  go_enter Tryz.func104, Tryz.ntmps104
  go_wp2
  go_ret
  exact ⟨rfl, rfl⟩
theorem cmp_lt (x y : Int) : (cmpQ x y < 0) ↔ x < y := by unfold cmpQ; by_cases h1 : x < y <;> by_cases h2 : y < x <;> simp [h1, h2]
theorem cmp_zero (x y : Int) : cmpQ x y = 0 ↔ x = y := by unfold cmpQ; by_cases h1 : x < y <;> by_cases h2 : y < x <;> simp [h1, h2] <;> omega
theorem orQ_zero {a b : Int} (h : a = 0) : orQ a b = b := by unfold orQ; simp [h]
theorem orQ_ne {a b : Int} (h : a ≠ 0) : orQ a b = a := by unfold orQ; simp [h]
theorem comes_or {t : Nat → Option Nat} {i j x : Nat} (hx : t i = some x) (hlt : x < 9223372036854775807) : decide (orQ (cmpQ (rankO (t i)) (rankO (t j))) (cmpQ (i : Int) (j : Int)) < 0) = waveLt t i j := by
 unfold waveLt
 rw [hx]
 cases hy : t j with
 | none =>
  have hc : cmpQ (rankO (some x)) (rankO none) = -1 := by unfold cmpQ; rw [if_pos (by show (x : Int) < 9223372036854775807; omega)]
  rw [orQ_ne (by rw [hc]; decide), hc]; simp
 | some y =>
  show decide (orQ (cmpQ (x : Int) (y : Int)) (cmpQ (i : Int) (j : Int)) < 0) = (decide (x < y) || (decide (x = y) && decide (i < j)))
  by_cases e : x = y
  ·subst e
   rw [orQ_zero ((cmp_zero _ _).2 rfl)]
   have h2 := cmp_lt (i : Int) (j : Int)
   by_cases h3 : i < j
   ·have h4 : cmpQ (i : Int) (j : Int) < 0 := h2.2 (by omega)
    simp [h3, h4]
   ·have h4 : ¬ cmpQ (i : Int) (j : Int) < 0 := fun h => h3 (by have := h2.1 h; omega)
    simp [h3]; omega
  ·rw [orQ_ne (fun h => e (by have := (cmp_zero _ _).1 h; omega))]
   have h2 := cmp_lt (x : Int) (y : Int)
   by_cases h3 : x < y
   ·have h4 : cmpQ (x : Int) (y : Int) < 0 := h2.2 (by omega)
    simp [h3, h4]
   ·have h4 : ¬ cmpQ (x : Int) (y : Int) < 0 := fun h => h3 (by have := h2.1 h; omega)
    simp [h3, e]; omega
theorem crossed_c (b n : Nat) (rs : List RoadN) (Ax : Option Addr) (nx cx : Nat) (xs : List LawR) (A : Option Addr) (m c : Nat) (ys : List WaveR) (ki kj : Int) (w : World) (hm : MapAt w b n rs) (hx : IsLaws w Ax nx cx xs) (hy : IsWaves w A m c ys) (hT : TabOK w) :
  Calls Tryz.prog 33 #[.pointer (some ⟨b, 0, none⟩), .slice Ax nx cx, .slice A m c, .int .i64 ki, .int .i64 kj] w (RetI w (crossedM n rs (lawsD xs) (wavesD ys) ki kj)) := by
 obtain ⟨An, cn, mb, Ar, cr, Aq, cq, c0, c1, c2, c3⟩ := hm.cells
 have hbl := hm.lt
 have hn128 := hm.few
 have hmx := hy.max
 have HM := hI hm; have HX := hI hx; have HY := hI hy; have HT := hI hT; have HC := hI c0
 have HLY : Hid ((wavesD ys).length = m) := by show _ = _; rw [wavesD, List.length_map]; exact hy.len
 clear hm hx hy hT c0 c1 c2 c3
 go_enter Tryz.func33, Tryz.ntmps33
 go_wp2_with fail
 refine (wcheck38_c b n rs Ax nx cx xs A m c ys w HM.out HX.out HY.out HT.out).mono ?_
 obtain ⟨er, her⟩ : ∃ er, er = waveE n (lawsD xs) (wavesD ys) := ⟨_, rfl⟩
 rw [← her]
 rintro e w1 ⟨rfl, hb1⟩
 have HB1 := hI hb1; have HER := hI her
 clear hb1 her
 by_cases he0 : er = 0
 ·have he1 : (er != 0) = false := by simp [he0]
  have HW0 : Hid (waveE n (lawsD xs) (wavesD ys) = 0) := by show _ = _; rw [← HER.out, he0]
  have HV : Hid (crossedM n rs (lawsD xs) (wavesD ys) ki kj = if min ki kj < 0 ∨ (m : Int) ≤ max ki kj then (3, []) else (0, ((List.range n).filter (comesB n rs (wavesD ys) ki.toNat kj.toNat)).map fun (a : Nat) => (a : Int))) := by
   show _ = _; unfold crossedM; rw [if_neg (by rw [HW0.out]; simp), HLY.out]
  clear HER he0
  by_cases hk0 : min ki kj < 0
  ·have HV1 : Hid (crossedM n rs (lawsD xs) (wavesD ys) ki kj = (3, [])) := by show _ = _; rw [HV.out, if_pos (.inl hk0)]
   go_wp2
   go_ret2
   exact RetI.bad HV1.out HB1.out
  ·by_cases hkm : (m : Int) ≤ max ki kj
   ·have HV1 : Hid (crossedM n rs (lawsD xs) (wavesD ys) ki kj = (3, [])) := by show _ = _; rw [HV.out, if_pos (.inr hkm)]
    go_wp2
    go_ret2
    exact RetI.bad HV1.out HB1.out
   ·obtain ⟨i, rfl⟩ : ∃ k : Nat, ki = k := ⟨ki.toNat, by omega⟩
    obtain ⟨k, rfl⟩ : ∃ k : Nat, kj = k := ⟨kj.toNat, by omega⟩
    have hkm' : k < m := by omega
    have him' : i < m := by omega
    obtain ⟨P, hP⟩ : ∃ P : Nat → Bool, P = comesB n rs (wavesD ys) i k := ⟨_, rfl⟩
    have HV1 : Hid (crossedM n rs (lawsD xs) (wavesD ys) i k = (0, ((List.range n).filter P).map fun (a : Nat) => (a : Int))) := by
     show _ = _; rw [HV.out, if_neg (by omega), hP]; rfl
    have HP := hI hP
    clear HV hP
    have hkm2 : (k : Int) < (m : Int) := by omega
    have him2 : (i : Int) < (m : Int) := by omega
    go_wp2_with fail
    refine (mlen_c b An n cn w1 ((HB1.out.cell (p := ⟨b, 0, none⟩) hbl).trans HC.out)).mono ?_
    rintro e w2 ⟨rfl, hb2⟩
    have HB2 := hI (HB1.out.trans (hb2.mono HB1.out.size))
    clear hb2 HB1
    have hB2s := HB2.out.size
    obtain ⟨B, hB⟩ : ∃ B, B = w2.heap.size := ⟨_, rfl⟩
    have hwB : w.heap.size ≤ B := by omega
    have HN0 : Hid (NumW w2 B (.slice none 0 0) []) := NumW.nil (by omega)
    clear hB hB2s
    go_wp2_with fail
    go_loopw [13, 40] (fun s13 i wr => ∃ j : Nat, j ≤ n ∧ i = .int .i64 (j : Int) ∧ Hid (NumW wr B s13 (((List.range j).filter P).map fun (a : Nat) => (a : Int))) ∧ Hid (Below w.heap.size w wr)) (fun _ i _ => n - (intOf i).toNat)
    case atStart => exact ⟨0, Nat.zero_le _, rfl, HN0.out, HB2.out⟩
    case round =>
     obtain ⟨j, hj, rfl, HN, HB⟩ := hrel
     clear HN0 HB2
     by_cases hlt : j < n
     ·have hjn : (j : Int) < (n : Int) := by omega
      obtain ⟨x, hx⟩ := (HY.out.below HB.out).get him'
      obtain ⟨yb, yo, hA, hyb, hat, k0, k1, k2, k3, k4⟩ := (HY.out.below HB.out).at_ hx
      have hxd : (wavesD ys)[i]? = some x.d := by rw [wavesD, List.getElem?_map, hx]; rfl
      have HTI : Hid (tAt n rs (wavesD ys) j i = arrM n rs x.d j) := by show _ = _; unfold tAt; rw [hxd]; rfl
      have H1 : Hid (oneE n x.d = 0) := ((wave_ok HW0.out).2.2.2 x.d (List.mem_of_getElem? hxd)).2.2
      have HAT := hI hat
      clear hx hxd hat
      obtain ⟨x', hx⟩ := (HY.out.below HB.out).get hkm'
      obtain ⟨yb', yo', hA', hyb', hat', l0, l1, l2, l3, l4⟩ := (HY.out.below HB.out).at_ hx
      obtain ⟨rfl, rfl⟩ : yb = yb' ∧ yo = yo' := by rw [hA] at hA'; injection hA' with h; injection h with h1 h2; exact ⟨h1, h2⟩
      have hxd : (wavesD ys)[k]? = some x'.d := by rw [wavesD, List.getElem?_map, hx]; rfl
      have HTJ : Hid (tAt n rs (wavesD ys) j k = arrM n rs x'.d j) := by show _ = _; unfold tAt; rw [hxd]; rfl
      have H1' : Hid (oneE n x'.d = 0) := ((wave_ok HW0.out).2.2.2 x'.d (List.mem_of_getElem? hxd)).2.2
      have HAT' := hI hat'
      clear hx hxd hat' hA' hyb'
      subst hA
      obtain ⟨⟨law, ps, T, S, fin⟩, Aw, nw, cw⟩ := x
      obtain ⟨⟨law', ps', T', S', fin'⟩, Aw', nw', cw'⟩ := x'
      simp only at k0 k1 k2 k3 k4 l0 l1 l2 l3 l4
      have HSS : Hid (∀ W' : World, Below wr.heap.size wr W' → W'.cell? ⟨yb, yo + i * 5, none⟩ = some (.int .i64 law) ∧ W'.cell? ⟨yb, yo + i * 5 + 1, none⟩ = some (.slice Aw nw cw) ∧ W'.cell? ⟨yb, yo + i * 5 + 2, none⟩ = some (.int .i64 T) ∧ W'.cell? ⟨yb, yo + i * 5 + 3, none⟩ = some (.int .i64 S) ∧ W'.cell? ⟨yb, yo + i * 5 + 4, none⟩ = some (.int .i64 fin) ∧ W'.cell? ⟨yb, yo + k * 5, none⟩ = some (.int .i64 law') ∧ W'.cell? ⟨yb, yo + k * 5 + 1, none⟩ = some (.slice Aw' nw' cw') ∧ W'.cell? ⟨yb, yo + k * 5 + 2, none⟩ = some (.int .i64 T') ∧ W'.cell? ⟨yb, yo + k * 5 + 3, none⟩ = some (.int .i64 S') ∧ W'.cell? ⟨yb, yo + k * 5 + 4, none⟩ = some (.int .i64 fin')) := fun W' hb =>
       ⟨(hb.cell (p := ⟨yb, _, none⟩) hyb).trans k0, (hb.cell (p := ⟨yb, _, none⟩) hyb).trans k1, (hb.cell (p := ⟨yb, _, none⟩) hyb).trans k2, (hb.cell (p := ⟨yb, _, none⟩) hyb).trans k3, (hb.cell (p := ⟨yb, _, none⟩) hyb).trans k4,
        (hb.cell (p := ⟨yb, _, none⟩) hyb).trans l0, (hb.cell (p := ⟨yb, _, none⟩) hyb).trans l1, (hb.cell (p := ⟨yb, _, none⟩) hyb).trans l2, (hb.cell (p := ⟨yb, _, none⟩) hyb).trans l3, (hb.cell (p := ⟨yb, _, none⟩) hyb).trans l4⟩
      go_wp2_with fail
      refine plain_region (fun W' => W'.cell? ⟨yb, yo + i * 5, none⟩ = some (.int .i64 law) ∧ W'.cell? ⟨yb, yo + i * 5 + 1, none⟩ = some (.slice Aw nw cw) ∧ W'.cell? ⟨yb, yo + i * 5 + 2, none⟩ = some (.int .i64 T) ∧ W'.cell? ⟨yb, yo + i * 5 + 3, none⟩ = some (.int .i64 S) ∧ W'.cell? ⟨yb, yo + i * 5 + 4, none⟩ = some (.int .i64 fin) ∧ W'.cell? ⟨yb, yo + k * 5, none⟩ = some (.int .i64 law') ∧ W'.cell? ⟨yb, yo + k * 5 + 1, none⟩ = some (.slice Aw' nw' cw') ∧ W'.cell? ⟨yb, yo + k * 5 + 2, none⟩ = some (.int .i64 T') ∧ W'.cell? ⟨yb, yo + k * 5 + 3, none⟩ = some (.int .i64 S') ∧ W'.cell? ⟨yb, yo + k * 5 + 4, none⟩ = some (.int .i64 fin')) (by kernel_rfl) ⟨k0, k1, k2, k3, k4, l0, l1, l2, l3, l4⟩ (fun hHeld => ?_)
      clear k0 k1 k2 k3 k4 l0 l1 l2 l3 l4
      (refine' anyT_tk 0 rfl ?_; (try simp only [Act.put, nY, nX])); (refine' anyT_tk 1 rfl ?_; (try simp only [Act.put, nY, nX])); (refine' anyT_tk 2 rfl ?_; (try simp only [Act.put, nY, nX])); (refine' anyT_tk 3 rfl ?_; (try simp only [Act.put, nY, nX])); (refine' anyT_tk 4 rfl ?_; (try simp only [Act.put, nY, nX])); (refine' anyT_tk 5 rfl ?_; (try simp only [Act.put, nY, nX])); (refine' anyT_tk 7 rfl ?_; (try simp only [Act.put, nY, nX])); (refine' anyT_tk 8 rfl ?_; (try simp only [Act.put, nY, nX])); (refine' anyT_tk 9 rfl ?_; (try simp only [Act.put, nY, nX])); (refine' anyT_tk 10 rfl ?_; (try simp only [Act.put, nY, nX])); (refine' anyT_tk 11 rfl ?_; (try simp only [Act.put, nY, nX])); (refine' anyT_tk 12 rfl ?_; (try simp only [Act.put, nY, nX]))
      clear hHeld
      (refine anyT_sp 6 rfl (fun K' hK' => ?_); simp only [nY]; go_simp)
      have hbd : Below wr.heap.size wr wr.drew := (Below.refl _ _).drew
      refine (at_c b n rs ⟨⟨law, ps, T, S, fin⟩, Aw, nw, cw⟩ j wr.drew (HM.out.below (HB.out.trans (hbd.mono HB.out.size))) (HAT.out.below hbd) H1.out hlt).mono ?_
      obtain ⟨t, ht⟩ : ∃ t, t = arrM n rs ⟨law, ps, T, S, fin⟩ j := ⟨_, rfl⟩
      have HTT : Hid (tAt n rs (wavesD ys) j i = t) := by show _ = _; rw [HTI.out, ht]
      rw [← ht]
      rintro e wq ⟨rfl, hbq⟩
      have hbq' : Below wr.heap.size wr wq := hbd.trans hbq
      have HBq' := hI hbq'
      refine hK' _ _ ⟨.inr (HSS.out wq hbq'), fun _ => ?_⟩
      clear hK' K' hbq hbq' hbd ht HTI H1
      (try simp only [Act.put, nY, nX])
      (refine anyT_sp 13 rfl (fun K' hK' => ?_); simp only [nY]; go_simp)
      refine (at_c b n rs ⟨⟨law', ps', T', S', fin'⟩, Aw', nw', cw'⟩ j wq (HM.out.below (HB.out.trans (HBq'.out.mono HB.out.size))) (HAT'.out.below HBq'.out) H1'.out hlt).mono ?_
      obtain ⟨u, hu⟩ : ∃ u, u = arrM n rs ⟨law', ps', T', S', fin'⟩ j := ⟨_, rfl⟩
      have HTU : Hid (tAt n rs (wavesD ys) j k = u) := by show _ = _; rw [HTJ.out, hu]
      rw [← hu]
      rintro e w3 ⟨rfl, hb3⟩
      have hbr : Below wr.heap.size wr w3 := HBq'.out.trans (hb3.mono HBq'.out.size)
      have HN3 := hI (HN.out.below hbr)
      have HB3 := hI (HB.out.trans (hbr.mono HB.out.size))
      have hss3 := HSS.out w3 hbr
      refine hK' _ _ ⟨.inr hss3, fun _ => ?_⟩
      clear hK' K' hb3 hbr hu HTJ H1' HN HB HBq' HSS
      (try simp only [Act.put, nY, nX])
      (refine anyT_sp 14 rfl (fun K' hK' => ?_); simp only [nY]; go_simp)
      refine hK' _ _ ⟨.inr hss3, fun _ => ?_⟩
      clear hK' K'
      (try simp only [Act.put, nY, nX])
      (refine anyT_sp 15 rfl (fun K' hK' => ?_); simp only [nY]; go_simp)
      refine hK' _ _ ⟨.inl (by kernel_rfl), fun _ => anyT_done (by kernel_rfl) ?_ _⟩
      clear hK' K' hss3
      go_wp2_with fail
      refine (rank_c t w3).mono ?_
      rintro e w4 ⟨rfl, rfl⟩
      go_wp2_with fail
      refine (rank_c u w4).mono ?_
      rintro e w5 ⟨rfl, rfl⟩
      go_wp2_with fail
      refine (cmp64_c (rankO t) (rankO u) w5).mono ?_
      rintro e w6 ⟨rfl, rfl⟩
      go_wp2_with fail
      refine (cmpP_c (i : Int) (k : Int) w6).mono ?_
      rintro e w7 ⟨rfl, rfl⟩
      obtain ⟨c1, hc1⟩ : ∃ c1, c1 = cmpQ (rankO t) (rankO u) := ⟨_, rfl⟩
      obtain ⟨c2, hc2⟩ : ∃ c2, c2 = cmpQ (i : Int) (k : Int) := ⟨_, rfl⟩
      rw [← hc1, ← hc2]
      have HC1 := hI hc1; have HC2 := hI hc2
      clear hc1 hc2
      go_wp2_with fail
      refine (orQ_c c1 c2 w7.heap.size (w7.alloc (.cells #[.int .i64 c1, .int .i64 c2] 3)) (cell_new_at rfl) (cell_new_at rfl)).mono ?_
      rintro e w8 ⟨rfl, rfl⟩
      have HPT : Hid (P j = (t.isSome && decide (orQ c1 c2 < 0))) := by
       show _ = _
       rw [HP.out]
       show ((tAt n rs (wavesD ys) j i).isSome && waveLt (tAt n rs (wavesD ys) j) i k) = _
       cases t with
       | none => rw [HTT.out]; rfl
       | some x =>
        have hlx : x < 9223372036854775807 := by
         obtain ⟨y, hy, ha⟩ := tAt_some HTT.out
         have := arrive_lt ha
         obtain ⟨z, hz, hzy⟩ := List.mem_map.1 (List.mem_of_getElem? hy)
         have hu := ((HY.out.2 z hz).u).fin
         rw [hzy] at hu
         omega
        rw [← comes_or (t := tAt n rs (wavesD ys) j) (j := k) HTT.out hlx, HTT.out, HTU.out, HC1.out, HC2.out]
      obtain ⟨od, hod⟩ : ∃ od, od = orQ c1 c2 := ⟨_, rfl⟩
      rw [← hod] at HPT ⊢
      have HN4' := hI (HN3.out.below ((Below.refl _ w7).alloc rr (.cells #[.int .i64 c1, .int .i64 c2] 3)))
      have HB4' : Hid (Below w.heap.size w (w7.alloc (.cells #[.int .i64 c1, .int .i64 c2] 3))) := HB3.out.alloc HB3.out.size _
      generalize w7.alloc (.cells #[.int .i64 c1, .int .i64 c2] 3) = w9 at *
      clear HC1 HC2 hod HN3 HB3 HTT HTU
      generalize arrI u = ua
      have HFI : Hid ((List.range (j + 1)).filter P = (List.range j).filter P ++ (if P j = true then [j] else [])) := by
       show _ = _; rw [List.range_succ, List.filter_append]; congr 1
       by_cases h : P j = true
       ·rw [if_pos h, List.filter_cons_of_pos h]; rfl
       ·rw [if_neg h, List.filter_cons_of_neg h]; rfl
      cases t with
      | none =>
       simp only [arrI]
       go_wp2_with fail
       go_roundw
       case rel => exact ⟨j + 1, by omega, by simp, by show NumW _ _ _ _; rw [HFI.out, HPT.out]; simpa using HN4'.out, HB4'.out⟩
       case measure => simp [intOf]; omega
      | some t =>
       simp only [arrI]
       have ht1 : ((t : Int) != -1) = true := by simp
       by_cases hlo : od < 0
       ·obtain ⟨A8, c8, hv8⟩ := HN4'.out.form
        subst hv8
        obtain ⟨L, hL⟩ : ∃ L, L = ((List.range j).filter P).map fun (a : Nat) => (a : Int) := ⟨_, rfl⟩
        have hll : L.length ≤ j := by rw [hL, List.length_map]; exact Nat.le_trans (List.length_filter_le _ _) (by simp)
        rw [← hL] at HN4' ⊢
        have HL := hI hL
        clear hL
        have hNa := HN4'.out.below ((Below.refl _ w9).alloc rr (.cells #[.int .i64 (j : Int)] 3))
        have HNa := hI hNa
        have hBa := hNa.2
        have HBa : Hid (Below w.heap.size w (w9.alloc (.cells #[.int .i64 (j : Int)] 3))) := HB4'.out.alloc HB4'.out.size _
        clear hNa
        go_wp2_with (at_builtin; refine append_int rfl (.tmp 75) (.tmp 77) rfl B (.slice A8 L.length c8) L.length (L.map (Value.int .i64)) rfl HNa.out.1 ⟨w9.heap.size, 0, none⟩ 1 (.int .i64 (j : Int)) rfl (cell_one_new _ _ _) rfl (by omega) hBa ?hc)
        case hc =>
         intro v' wb hown hg _
         have HNb := hI (HNa.out.push hown hg)
         have HBb := hI (HNa.out.grow HBa.out hwB hg)
         clear hown hg
         go_wp2_with fail
         go_roundw
         case rel => exact ⟨j + 1, by omega, by simp, by show NumW _ _ _ _; rw [HFI.out, HPT.out, if_pos (by simp [hlo]), List.map_append, ← HL.out]; exact HNb.out, HBb.out⟩
         case measure => simp [intOf]; omega
       ·go_wp2_with fail
        go_roundw
        case rel => exact ⟨j + 1, by omega, by simp, by show NumW _ _ _ _; rw [HFI.out, HPT.out, if_neg (by simp; omega), List.append_nil]; exact HN4'.out, HB4'.out⟩
        case measure => simp [intOf]; omega
     ·obtain rfl : j = n := by omega
      go_wp2
      go_ret2
      exact RetI.own HV1.out HN.out.1 HB.out
 ·have he1 : (er != 0) = true := by simpa using he0
  have HV : Hid (crossedM n rs (lawsD xs) (wavesD ys) ki kj = (er, [])) := by show _ = _; unfold crossedM; rw [if_pos (by rw [← HER.out]; exact he0), HER.out]
  go_wp2
  go_ret2
  exact RetI.bad HV.out HB1.out
end Go.Proofs.YtaglfmlgbcmakaaGreatDoor
namespace Go.Proofs.YtaglfmlgbcmakaaGreatDoor
open Go.RowKit Go.Shelf Go.Sort Go.Lib
theorem line1_c (o : Option Nat) (now : Int) (bn : Nat) (w : World) (h : w.heap[bn]? = some (.cells #[.int .i64 now] 2 (0, 0))) :
  Calls Tryz.prog 103 #[.int .i64 (arrI o), .pointer (some ⟨bn, 0, none⟩)] w fun e w' => e = .returned (.bool (byNow now o)) ∧ w' = w := by
 obtain ⟨x, hx⟩ : ∃ x, x = arrI o := ⟨_, rfl⟩
 have HB := hI (by_c o now w)
 rw [← hx] at *
 clear hx
 have c0 := cell_of_one h
 clear h
 go_enter Tryz.func103, Tryz.ntmps103
 go_wp2_with fail
 refine HB.out.mono ?_
 rintro e w1 ⟨rfl, rfl⟩
 go_wp2
 go_ret
 exact ⟨rfl, rfl⟩
def TimesAt (w : World) (g tb : Nat) (m : Nat) (tt : Nat → Option Nat) : Prop := ∃ c, w.heap[g]? = some (.cells #[.slice (some ⟨tb, 0, none⟩) m c] 192 (0, 0)) ∧ ∃ cur : Array Value, w.heap[tb]? = some (.cells cur 123 (0, 0)) ∧ ∀ j, j < m → cur[j]? = some (.int .i64 (arrI (tt j)))
theorem TimesAt.keep {w w' : World} {g tb m : Nat} {tt : Nat → Option Nat} {S : Nat → Prop} (h : TimesAt w g tb m tt) (hk : Keep S w w') (h1 : ¬ S g) (h2 : ¬ S tb) : TimesAt w' g tb m tt := by
 obtain ⟨c, hg, cur, ht, hc⟩ := h
 exact ⟨c, (hk.block g (lt_of_block hg) h1).trans hg, cur, (hk.block tb (lt_of_block ht) h2).trans ht, hc⟩
theorem earlier_c (i k m g tb : Nat) (tt : Nat → Option Nat) (hi : i < m) (hk : k < m) (w : World) (h : TimesAt w g tb m tt) :
  Calls Tryz.prog 142 #[.int .i64 (i : Int), .int .i64 (k : Int), .pointer (some ⟨g, 0, none⟩)] w fun e w' => e = .returned (.int .i64 (cmpQ (rankO (tt i)) (rankO (tt k)))) ∧ w' = w.drewN 1 := by
 obtain ⟨c, hg, cur, ht, hc⟩ := h
 have c0 : w.cell? ⟨g, 0, none⟩ = some (.slice (some ⟨tb, 0, none⟩) m c) := by simp [World.cell?, hg]
 have cx : w.cell? ⟨tb, i, none⟩ = some (.int .i64 (arrI (tt i))) := by simp [World.cell?, ht, hc i hi]
 have cy : w.cell? ⟨tb, k, none⟩ = some (.int .i64 (arrI (tt k))) := by simp [World.cell?, ht, hc k hk]
 have hxn : (i : Int) < (m : Int) := by omega
 have hyn : (k : Int) < (m : Int) := by omega
 have HRi := hI fun w => rank_c (tt i) w
 have HRk := hI fun w => rank_c (tt k) w
 obtain ⟨ri, hri⟩ : ∃ x, x = rankO (tt i) := ⟨_, rfl⟩
 obtain ⟨rk, hrk⟩ : ∃ x, x = rankO (tt k) := ⟨_, rfl⟩
 obtain ⟨ai, hai⟩ : ∃ x, x = arrI (tt i) := ⟨_, rfl⟩
 obtain ⟨ak, hak⟩ : ∃ x, x = arrI (tt k) := ⟨_, rfl⟩
 rw [← hri, ← hai] at HRi
 rw [← hrk, ← hak] at HRk
 rw [← hri, ← hrk]
 rw [← hai] at cx
 rw [← hak] at cy
 clear hg ht hc hi hk hri hrk hai hak
 go_enter Tryz.func142, Tryz.ntmps142
 go_wp2_with fail
 refine plain_region (fun W' => W'.cell? ⟨g, 0, none⟩ = some (.slice (some ⟨tb, 0, none⟩) m c) ∧ W'.cell? ⟨tb, i, none⟩ = some (.int .i64 ai) ∧ W'.cell? ⟨tb, k, none⟩ = some (.int .i64 ak)) (by kernel_rfl) ⟨c0, cx, cy⟩ (fun hHeld => ?_)
 (refine' anyT_tk 0 rfl ?_; (try simp only [Act.put, nY, nX])); (refine' anyT_tk 1 rfl ?_; (try simp only [Act.put, nY, nX])); (refine' anyT_tk 2 rfl ?_; (try simp only [Act.put, nY, nX])); (refine' anyT_tk 3 rfl ?_; (try simp only [Act.put, nY, nX])); (refine' anyT_tk 5 rfl ?_; (try simp only [Act.put, nY, nX])); (refine' anyT_tk 6 rfl ?_; (try simp only [Act.put, nY, nX])); (refine' anyT_tk 7 rfl ?_; (try simp only [Act.put, nY, nX])); (refine' anyT_tk 8 rfl ?_; (try simp only [Act.put, nY, nX]))
 (refine anyT_sp 4 rfl (fun K' hK' => ?_); simp only [nY]; go_simp)
 refine (HRi.out _).mono ?_
 rintro e w1 ⟨rfl, rfl⟩
 refine hK' _ _ ⟨.inr hHeld, fun _ => ?_⟩
 clear hK' K'
 (try simp only [Act.put, nY, nX])
 (refine anyT_sp 9 rfl (fun K' hK' => ?_); simp only [nY]; go_simp)
 refine (HRk.out _).mono ?_
 rintro e w1 ⟨rfl, rfl⟩
 refine hK' _ _ ⟨.inr hHeld, fun _ => ?_⟩
 clear hK' K'
 (try simp only [Act.put, nY, nX])
 (refine anyT_sp 10 rfl (fun K' hK' => ?_); simp only [nY]; go_simp)
 refine (cmp64_c ri rk _).mono ?_
 rintro e w1 ⟨rfl, rfl⟩
 refine hK' _ _ ⟨.inr hHeld, fun _ => ?_⟩
 clear hK' K'
 (try simp only [Act.put, nY, nX])
 (refine anyT_sp 11 rfl (fun K' hK' => ?_); simp only [nY]; go_simp)
 refine hK' _ _ ⟨.inl (by kernel_rfl), fun _ => anyT_done (by kernel_rfl) ?_ _⟩
 clear hK' K'
 go_wp2
 go_ret
 exact ⟨rfl, rfl⟩
end Go.Proofs.YtaglfmlgbcmakaaGreatDoor

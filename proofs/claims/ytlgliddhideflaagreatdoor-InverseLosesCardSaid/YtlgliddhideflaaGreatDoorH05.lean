/-
  inverse.became: each word of an alphabet with so many sounds that does not become too long, with what it becomes, is handed to a function.
  inverse.Fixed: how many words a law leaves as they are.
  inverse.Image: its closures.
  slices.CompactFunc over words, as inverse.Image calls it.
  inverse.Image.
  A word that does not lie in a row of one's own.
  Pairs of words, in a slice of one's own.
  A text for each word, different ones for different words; a map from texts to places, in plain words.
-/
import Derived.Lib.SliceRun
import Derived.Maps.Views
import Derived.Test.YtlgliddhideflaaGreatDoorH04
import Derived.Test.YtlgliddhideflaaGreatDoorG38
set_option linter.all false
set_option maxRecDepth 100000
set_option maxHeartbeats 4000000
namespace Go.Proofs.YtlgliddhideflaaGreatDoor
open Go.RowKit Go.Shelf
attribute [local go_sem] Oper.semAt_some
structure BecUse (F : Nat) (lb : Array Value) (A : Option Addr) (n c : Nat) (xs : List LawR) (As : Option Addr) (ns cs : Nat) (ss : List Snd) (k : Nat) (B : Nat) (J : Nat → (Nat → Prop) → World → Prop) : Prop where
 hB : ∀ i T W, J i T W → B ≤ W.heap.size
 hlt : ∀ i T W, J i T W → ∀ b, T b → b < W.heap.size
 hst : ∀ i T W W', J i T W → Keep (fun b => B ≤ b ∧ ¬ T b) W W' → J i T W'
 hnd : ∀ i T W, J i T W → ∀ b, T b → ∀ x, W.heap[b]? ≠ some (.deferred x)
 hrd : ∀ i T W, J i T W → IsLaws W A n c xs ∧ IsWord W As ns cs ss ∧ TabOK W
 hy : ∀ i T W Af nf cf x At nt ct y, wrongM (lawsD xs) [] ss = 0 → k ≤ 4 → (outsM11 (lawsD xs) ss k)[i]? = some (x, y) → IsWord W Af nf cf x → IsWord W At nt ct y → (∀ ad, Af = some ad → B ≤ ad.block ∧ ¬ T ad.block) → (∀ ad, At = some ad → B ≤ ad.block ∧ ¬ T ad.block) → J i T W →
  Calls Tryz.prog F (#[.slice Af nf cf, .slice At nt ct] ++ lb) W (fun e W'' => (∃ v, e = .returned v) ∧ Keep T W W'' ∧ ∃ T', J (i + 1) T' W'' ∧ ∀ b, T' b → T b ∨ W.heap.size ≤ b ∨ (0 < nf ∧ ∃ ad, Af = some ad ∧ ad.block = b) ∨ (0 < nt ∧ ∃ ad, At = some ad ∧ ad.block = b))
theorem short_bad {ls : List LawD} {ss : List Snd} {n : Int} (h : wrongM ls [] ss ≠ 0) : shortM ls ss n = wrongM ls [] ss := by unfold shortM; rw [if_pos h]
theorem short_range {ls : List LawD} {ss : List Snd} {n : Int} (h : wrongM ls [] ss = 0) (hn : n < 0 ∨ 4 < n) : shortM ls ss n = 3 := by unfold shortM; rw [if_neg (by simpa using h), if_pos hn]
theorem short_ok {ls : List LawD} {ss : List Snd} {n : Int} (h : wrongM ls [] ss = 0) (hn : ¬ (n < 0 ∨ 4 < n)) : shortM ls ss n = 0 := by unfold shortM; rw [if_neg (by simpa using h), if_neg hn]
theorem became_c (A : Option Addr) (n c : Nat) (xs : List LawR) (As : Option Addr) (ns cs : Nat) (ss : List Snd) (k : Int) (F : Nat) (lb : Array Value) (w : World) (J : Nat → (Nat → Prop) → World → Prop) (T0 : Nat → Prop)
  (H : BecUse F lb A n c xs As ns cs ss k.toNat w.heap.size J) (h0 : J 0 T0 w) (hE : Enters Tryz.prog F) :
  Calls Tryz.prog 112 #[.slice A n c, .slice As ns cs, .int .i64 k, .func (.func F) #[] lb] w fun e w' => e = .returned (.int .i64 (shortM (lawsD xs) ss k)) ∧ ∃ i T, J i T w' ∧ (shortM (lawsD xs) ss k = 0 → i = (outsM11 (lawsD xs) ss k.toNat).length) := by
 obtain ⟨q1, q2, q3⟩ := H.hrd _ _ _ h0
 have hT0 := H.hlt _ _ _ h0
 have HX := hI q1; have HS := hI q2; have HT := hI q3
 have HU := hI H; clear H
 have H0 := hI h0; clear h0
 have HT0 := hI hT0; clear hT0
 clear q1 q2 q3
 unfold Enters at hE
 refine (callsIn_wide (n := 9)).1 (callsIn_of_wp_marks Tryz.func112 rfl trivial ?_ rfl)
 simp only [Tryz.ntmps112, List.size_toArray, List.length_cons, List.length_nil, Nat.reduceAdd, Nat.reduceSub, Array.replicate_succ, Array.replicate_zero, List.push_toArray, List.append_toArray, List.nil_append, List.cons_append]
 gi_wp2
 have k0 : ((w.alloc (.cells #[.slice A n c] 35)).alloc (.cells #[.func (.func F) #[] lb] 148)).heap[w.heap.size]? = some (.cells #[.slice A n c] 35 (0, 0)) := hpt
 have k1 : ((w.alloc (.cells #[.slice A n c] 35)).alloc (.cells #[.func (.func F) #[] lb] 148)).heap[w.heap.size + 1]? = some (.cells #[.func (.func F) #[] lb] 148 (0, 0)) := hpt
 have kB : Below w.heap.size w ((w.alloc (.cells #[.slice A n c] 35)).alloc (.cells #[.func (.func F) #[] lb] 148)) := bel
 generalize ((w.alloc (.cells #[.slice A n c] 35)).alloc (.cells #[.func (.func F) #[] lb] 148)) = V0 at *
 refine ⟨trivial, ?_⟩
 refine (callsIn_wide.2 (wrong_c A n c xs none 0 0 [] As ns cs ss V0 (HX.out.below kB rr) (Cells.nil _ _) (HS.out.below kB rr))).mono ?_
 rintro e w1 ⟨rfl, hb1⟩
 have K0 := hI ((hb1.block _ (lt_of_block k0)).trans k0)
 have K1 := hI ((hb1.block _ (lt_of_block k1)).trans k1)
 have HB1 := hI (kB.trans (hb1.mono kB.size))
 have hw1 := lt_of_block K1.out
 have HJ1 := hI (HU.out.hst _ _ _ _ H0.out (keep_of_below HB1.out))
 clear k0 k1 kB hb1
 obtain ⟨er, her⟩ : ∃ er, er = wrongM (lawsD xs) [] ss := ⟨_, rfl⟩
 rw [← her]
 have HER := hI her; clear her
 by_cases h0 : er = 0
 case neg =>
  have h1 : (er != 0) = true := by simpa using h0
  have HM : Hid (shortM (lawsD xs) ss k = er) := by show shortM _ _ _ = _; rw [HER.out]; exact short_bad (by rw [← HER.out]; exact h0)
  have HNE := hI h0; clear h0
  gi_wp2
  exact post_tmp (B := w.heap.size) Tryz.results112 _ rfl trivial fun w' hw' => ⟨by rw [HM.out]; rfl, 0, T0, HU.out.hst _ _ _ _ HJ1.out (keep_of_shut hw' (HU.out.hnd _ _ _ HJ1.out)), fun h => absurd (HM.out.symm.trans h) HNE.out⟩
 have h1 : (er != 0) = false := by simpa using h0
 have HRF : Hid (refusedM ss = 0) := (wrong_none (by rw [← HER.out]; exact h0)).2.2
 have HW0 : Hid (wrongM (lawsD xs) [] ss = 0) := by show _ = _; rw [← HER.out]; exact h0
 clear h0
 by_cases hr : k < 0 ∨ 4 < k
 case pos =>
  have HM : Hid (shortM (lawsD xs) ss k = 3) := short_range HW0.out hr
  rcases hr with hr | hr
  ·gi_wp2
   exact post_tmp (B := w.heap.size) Tryz.results112 _ rfl trivial fun w' hw' => ⟨by rw [HM.out]; rfl, 0, T0, HU.out.hst _ _ _ _ HJ1.out (keep_of_shut hw' (HU.out.hnd _ _ _ HJ1.out)), fun h => absurd (HM.out.symm.trans h) (by decide)⟩
  ·have hr0 : ¬ k < 0 := by omega
   gi_wp2
   exact post_tmp (B := w.heap.size) Tryz.results112 _ rfl trivial fun w' hw' => ⟨by rw [HM.out]; rfl, 0, T0, HU.out.hst _ _ _ _ HJ1.out (keep_of_shut hw' (HU.out.hnd _ _ _ HJ1.out)), fun h => absurd (HM.out.symm.trans h) (by decide)⟩
 have HM : Hid (shortM (lawsD xs) ss k = 0) := short_ok HW0.out hr
 obtain ⟨kn, hkn⟩ : ∃ kn : Nat, k = kn := ⟨k.toNat, by omega⟩
 subst hkn
 have hr0 : ¬ (kn : Int) < 0 := by omega
 have hr4 : ¬ (4 : Int) < (kn : Int) := by omega
 simp only [Int.toNat_natCast] at HU HJ1 ⊢
 gi_wp2
 refine ⟨trivial, ?_⟩
 refine (callsIn_wide.2 (words_c As ns cs kn w1)).mono ?_
 rintro e w2 ⟨rfl, k2, k1, hb2, hz2⟩
 have KA := hI k1; have KN := hI k2; have HB2 := hI hb2
 clear k1 k2 hb2
 gi_wp2
 refine wide_range (gf := 189) (lb := #[.pointer (some ⟨w1.heap.size + 1, 0, none⟩), .pointer (some ⟨w1.heap.size, 0, none⟩)]) rfl (enters_of Tryz.func189 (by kernel_rfl) rfl) fun fn D l rc W1 hrc hD hl hK2 hD1 hl1 hs2 => ?_
 have HRC := hI hrc; clear hrc
 have hDl : D < l := by omega
 have hlW : l < W1.heap.size := by omega
 have hwD : w1.heap.size + 1 < D := by omega
 clear hs2 hD hl hz2
 have hws := HB1.out.size
 have hKW : Keep (fun _ => False) w1 W1 := (keep_of_below HB2.out).trans hK2
 have hwW := hKW.size
 have HKW := hI hKW
 have k11 := (hK2.block _ (lt_of_block KN.out) (by simp)).trans KN.out
 have k21 := (hK2.block _ (lt_of_block KA.out) (by simp)).trans KA.out
 have k00 := (hKW.block _ (lt_of_block K0.out) (by simp)).trans K0.out
 have k01 := (hKW.block _ (lt_of_block K1.out) (by simp)).trans K1.out
 have HJW := hI (HU.out.hst _ _ _ _ HJ1.out (hKW.mono fun _ h => h.elim))
 have HT01 : Hid (∀ b, T0 b → b < w.heap.size) := HT0
 have KN1 := hI k11; have KA1 := hI k21; have KL1 := hI k00; have KF1 := hI k01; have HD1 := hI hD1; have HL1 := hI hl1
 clear hKW hK2 k11 k21 k00 k01 hD1 hl1
 obtain ⟨Mine, hMine⟩ : ∃ Mine : Nat → Prop, Mine = fun b => w.heap.size ≤ b ∧ b < W1.heap.size := ⟨_, rfl⟩
 have hMi : ∀ b, Mine b ↔ w.heap.size ≤ b ∧ b < W1.heap.size := fun b => by rw [hMine]
 clear hMine
 have hMl := (hMi l).2 ⟨by omega, hlW⟩
 have hMD := (hMi D).2 ⟨by omega, by omega⟩
 have hMA := (hMi w1.heap.size).2 ⟨by omega, by omega⟩
 have hMN := (hMi (w1.heap.size + 1)).2 ⟨by omega, by omega⟩
 have hML := (hMi w.heap.size).2 ⟨by omega, by omega⟩
 have hMF := (hMi (w.heap.size + 1)).2 ⟨by omega, by omega⟩
 have HMI := hI hMi; clear hMi
 obtain ⟨JJ, hJJ⟩ : ∃ JJ : Nat → (Nat → Prop) → World → Prop, JJ = fun i T' X => ∃ T1 : Nat → Prop, T' = (fun b => T1 b ∨ b = l) ∧ J (outsPre (lawsD xs) ((wordsM (alphaM ss) kn).take i)).length T1 X ∧ (∀ b, Mine b → ¬ T1 b) ∧ (∀ b, Mine b → b ≠ l → X.heap[b]? = W1.heap[b]?) ∧
   X.heap[l]? = some (.loop (rc .ready none)) ∧ W1.heap.size ≤ X.heap.size := ⟨_, rfl⟩
 have HJJ := hI hJJ; clear hJJ
 have hsn := refused_none HRF.out
 have HSD : Hid ss.Nodup := hsn.2.2
 have hns : ns ≤ 5 := by rw [← HS.out.len]; exact hsn.1
 clear hsn
 refine (words1_iter (9 - 1) l (w1.heap.size + 1) w1.heap.size (by omega) As ns cs ss kn W1.heap.size W1 JJ (fun _ => False) (fun b => T0 b ∨ b = l) ?hu ?h0 hns (by omega) HSD.out).mono ?_
 case h0 =>
  rw [HJJ.out]
  exact ⟨T0, rfl, HJW.out, fun b hb h => by have := (HMI.out b).1 hb; have := HT01.out b h; omega, fun b _ _ => rfl, HL1.out, rr⟩
 case hu =>
  refine ⟨?hB, ?hlt, ?hst, ?hrd, ?hy⟩
  case hB =>
   intro i T' X hx
   rw [HJJ.out] at hx
   obtain ⟨T1, rfl, h1, h2, h3, h4, h5⟩ := hx
   exact h5
  case hlt =>
   intro i T' X hx b hb
   rw [HJJ.out] at hx
   obtain ⟨T1, rfl, h1, h2, h3, h4, h5⟩ := hx
   rcases hb with hb | rfl
   ·exact HU.out.hlt _ _ _ h1 b hb
   ·exact lt_of_block h4
  case hst =>
   intro i T' X X' hx hKe
   rw [HJJ.out] at hx ⊢
   obtain ⟨T1, rfl, h1, h2, h3, h4, h5⟩ := hx
   have ho : ∀ b, b < W1.heap.size → X'.heap[b]? = X.heap[b]? := fun b hb => hKe.block b (by omega) (fun h => by have := h.1; omega)
   exact ⟨T1, rfl, HU.out.hst _ _ _ _ h1 (hKe.mono fun b hb => ⟨by have := hb.1; omega, fun h => hb.2 (.inl h)⟩), h2, fun b hb hne => (ho b ((HMI.out b).1 hb).2).trans (h3 b hb hne), (ho l hlW).trans h4, Nat.le_trans h5 hKe.size⟩
  case hrd =>
   intro i T' X hx
   rw [HJJ.out] at hx
   obtain ⟨T1, rfl, h1, h2, h3, h4, h5⟩ := hx
   exact ⟨(h3 _ hMA (by omega)).trans KA1.out, (h3 _ hMN (by omega)).trans KN1.out, (HU.out.hrd _ _ _ h1).2.1⟩
  case hy =>
   intro i T' X A' c' x hxi hwd hfr hx
   rw [HJJ.out] at hx
   obtain ⟨T1, rfl, h1, h2, h3, h4, h5⟩ := hx
   refine wide_round HRC.out h4 rfl ?_
   have HXI := hI hxi; clear hxi
   have HWD := hI hwd; clear hwd
   have HFR := hI hfr; clear hfr
   have HH1 := hI h1; have HH2 := hI h2; have HH3 := hI h3; have HH4 := hI h4
   clear h1 h2 h3 h4
   gi_wp2
   refine ⟨HH4.out, ?_⟩
   have p4 : (X.putObj l (.loop (rc .busy none))).heap[l]? = some (.loop (rc .busy none)) := World.putObj_heap_same (lt_of_block HH4.out)
   have pK : Keep (fun b => b = l) X (X.putObj l (.loop (rc .busy none))) := (Keep.refl (fun b => b = l) X).putObj rfl _
   have pJ : J (outsPre (lawsD xs) ((wordsM (alphaM ss) kn).take i)).length T1 (X.putObj l (.loop (rc .busy none))) := HU.out.hst _ _ _ _ HH1.out (pK.mono (fun b hb => by subst hb; exact ⟨by omega, HH2.out _ hMl⟩))
   have p3 : ∀ b, Mine b → b ≠ l → (X.putObj l (.loop (rc .busy none))).heap[b]? = W1.heap[b]? := fun b hb hne => (World.putObj_heap_other hne).trans (HH3.out b hb hne)
   have pw : IsWord (X.putObj l (.loop (rc .busy none))) A' kn c' x := HWD.out.keep pK fun _ ad had e => (HFR.out ad had).2 (.inr e)
   have ps : (X.putObj l (.loop (rc .busy none))).heap.size = X.heap.size := by simp
   generalize X.putObj l (.loop (rc .busy none)) = V at *
   have hVW : W1.heap.size ≤ V.heap.size := by omega
   obtain ⟨q1, q2, q3⟩ := HU.out.hrd _ _ _ pJ
   have v0 := (p3 _ hML (by omega)).trans KL1.out
   have v1 := (p3 _ hMF (by omega)).trans KF1.out
   have e0 := cell_of_one v0
   have P4 := hI p4; have PK := hI pK; have PJ := hI pJ; have P3 := hI p3; have PW := hI pw; have PS := hI ps
   have Q1 := hI q1; have Q3 := hI q3; have V1 := hI v1
   clear p4 pK pJ p3 pw ps q1 q2 q3 v0 v1
   gi_wp2
   refine ⟨trivial, rfl, (CallsIn.inRound l (callsIn_wide.2 (derive_c A n c xs A' kn c' x V Q1.out PW.out Q3.out))).mono ?_⟩
   rintro e V2 ⟨A2, n2, c2, rfl, hw2, hb2, hf2⟩
   have HW2 := hI hw2; have HB2 := hI hb2; have HF2 := hI hf2
   clear hw2 hb2 hf2
   have HGO : Hid (∀ (Y : World) (T2 : Nat → Prop), J (outsPre (lawsD xs) ((wordsM (alphaM ss) kn).take (i + 1))).length T2 Y → Keep T1 V Y → (∀ b, T2 b → T1 b ∨ V.heap.size ≤ b) →
     Y.heap[l]? = some (.loop (rc .busy none)) ∧ ∃ T'', JJ (i + 1) T'' (Y.putObj l (.loop (rc .ready none))) ∧ Keep (fun b => T1 b ∨ b = l) X (Y.putObj l (.loop (rc .ready none))) ∧ ∀ b, T'' b → (fun b => T1 b ∨ b = l) b ∨ X.heap.size ≤ b) := by
    intro Y T2 y1 y2 y3
    have hYs := y2.size
    have hps := PS.out
    have hm2 : ∀ b, Mine b → ¬ T2 b := fun b hb h => by
     rcases y3 b h with h | h
     ·exact HH2.out b hb h
     ·have := ((HMI.out b).1 hb).2; omega
    have hYl : l < Y.heap.size := by omega
    refine ⟨(y2.block l (by omega) (HH2.out _ hMl)).trans P4.out, fun b => T2 b ∨ b = l, ?_, ?_, fun b h => ?_⟩
    ·rw [HJJ.out]
     refine ⟨T2, rfl, HU.out.hst _ _ _ _ y1 (((Keep.refl (fun b => b = l) Y).putObj rfl _).mono fun b hb => by subst hb; exact ⟨by omega, hm2 _ hMl⟩), hm2, fun b hb hne => ?_, World.putObj_heap_same hYl, by simp; omega⟩
     have hbl := ((HMI.out b).1 hb).2
     exact (World.putObj_heap_other hne).trans ((y2.block b (by omega) (HH2.out b hb)).trans (P3.out b hb hne))
    ·exact ((PK.out.mono fun _ h => .inr h).trans (y2.mono fun _ h => .inl h)).putObj (.inr rfl) _
    ·rcases h with h | h
     ·rcases y3 b h with h | h
      ·exact .inl (.inl h)
      ·exact .inr (by omega)
     ·exact .inl (.inr h)
   have c1 := cell_of_one ((HB2.out.block _ (lt_of_block V1.out)).trans V1.out)
   have hkn : kn ≤ 4096 := by omega
   by_cases hd0 : (deriveM (lawsD xs) x).1 = 0
   ·have HPY := hI (outsPre_yes HXI.out hd0)
    have HPA : Hid ((outsM11 (lawsD xs) ss kn)[(outsPre (lawsD xs) ((wordsM (alphaM ss) kn).take i)).length]? = some (x, (deriveM (lawsD xs) x).2)) := by
     show _ = _
     rw [outs_pre]; exact outsPre_at HXI.out hd0
    gi_wp2
    refine round_region (fun W' => W'.cell? ⟨w.heap.size + 1, 0, none⟩ = some (.func (.func F) #[] lb)) (by kernel_rfl) (by kernel_rfl) (fun _ _ h => by exact h) c1 (fun hHeld => ?_)
    (refine' anyT_tk 0 rfl ?_; (try simp only [Act.put, nY, nX])); (refine' anyT_tk 1 rfl ?_; (try simp only [Act.put, nY, nX])); (refine' anyT_tk 3 rfl ?_; (try simp only [Act.put, nY, nX]))
    (refine anyT_sp 2 rfl (fun K' hK' => ?_); simp only [nY]; go_simp)
    refine (clone_c A' kn c' x _ (PW.out.below (B := V.heap.size) (HB2.out.trans ((Below.refl V2.heap.size V2).drew.mono HB2.out.size)) rr) hkn).mono ?_
    rintro e w3 ⟨A3, n3, c3, rfl, hw3, hb3, hf3⟩
    have hb3' : Below V2.heap.size V2 w3 := (Below.refl V2.heap.size V2).drew.trans hb3
    refine hK' _ _ ⟨.inr (cell_of_one ((hb3'.block _ (lt_of_block ((HB2.out.block _ (lt_of_block V1.out)).trans V1.out))).trans ((HB2.out.block _ (lt_of_block V1.out)).trans V1.out))), fun _ => ?_⟩
    clear hK' K'
    (try simp only [Act.put, nY, nX])
    (refine anyT_sp 4 rfl (fun K' hK' => ?_); simp only [nY]; go_simp)
    have hdz : V2.drew.heap.size = V2.heap.size := rfl
    rw [hdz] at hf3
    have hz2 := HB2.out.size
    have hz3 := hb3'.size
    have hT1V := HU.out.hlt _ _ _ PJ.out
    have hbV3 := HB2.out.trans (hb3'.mono hz2)
    have hf2 := HF2.out
    refine (HU.out.hy _ T1 w3 A3 n3 c3 x A2 n2 c2 (deriveM (lawsD xs) x).2 HW0.out (by omega) HPA.out hw3 (HW2.out.below hb3' rr) (fun ad had => ⟨by have := hf3 ad had; omega, fun h => by have := hf3 ad had; have := hT1V _ h; omega⟩)
     (fun ad had => ⟨by have := hf2 ad had; omega, fun h => by have := hf2 ad had; have := hT1V _ h; omega⟩) (HU.out.hst _ _ _ _ PJ.out (keep_of_below hbV3))).mono ?_
    rintro e W6 ⟨⟨v, rfl⟩, hKp, T6, hJ6, hT6⟩
    obtain ⟨z0, T7, z1, z2, z3⟩ := HGO.out W6 T6 (by rw [HPY.out, List.length_append]; exact hJ6) (Keep.trans (keep_of_below hbV3) hKp) (fun b h => by
     rcases hT6 b h with h | h | ⟨_, ad, had, h⟩ | ⟨_, ad, had, h⟩
     ·exact .inl h
     ·exact .inr (by omega)
     ·exact .inr (by have := hf3 ad had; omega)
     ·exact .inr (by have := hf2 ad had; omega))
    have Z := hI (And.intro z0 (And.intro z1 (And.intro z2 z3)))
    clear z0 z1 z2 z3 hKp hJ6 hT6 hf2 hf3 hw3 hb3 hb3' hbV3 hT1V hdz
    refine hK' _ _ ⟨.inl (by kernel_rfl), fun _ => anyT_done (by kernel_rfl) ?_ _⟩
    clear hK' K' hHeld
    gi_wp2
    exact ⟨Z.out.1, rfl, T7, Z.out.2.1, Z.out.2.2.1, Z.out.2.2.2⟩
   ·have hd0' : ((deriveM (lawsD xs) x).1 == 0) = false := by simpa using hd0
    have HPN := hI (outsPre_no HXI.out hd0)
    clear hd0
    gi_wp2
    obtain ⟨z0, T7, z1, z2, z3⟩ := HGO.out V2 T1 (by rw [HPN.out]; exact HU.out.hst _ _ _ _ PJ.out (keep_of_below HB2.out)) (keep_of_below HB2.out) (fun b h => .inl h)
    exact ⟨z0, rfl, T7, z1, z2, z3⟩
 rintro e W' ⟨⟨v, rfl⟩, ⟨T9, hj⟩ | hx⟩
 ·rw [HJJ.out] at hj
  obtain ⟨T1, rfl, h1, h2, h3, h4, h5⟩ := hj
  refine .inl ⟨h4, ?_⟩
  have hlen : Hid ((outsPre (lawsD xs) ((wordsM (alphaM ss) kn).take (wordsM (alphaM ss) kn).length)).length = (outsM11 (lawsD xs) ss kn).length) := by
   show _ = _
   rw [outsPre_all, outs_pre]
  have x1 : J (outsM11 (lawsD xs) ss kn).length T1 (W'.putObj l (.loop (rc .exhausted none))) := by
   rw [← hlen.out]
   exact HU.out.hst _ _ _ _ h1 (((Keep.refl (fun b => b = l) W').putObj rfl _).mono fun b hb => by subst hb; exact ⟨by omega, h2 _ hMl⟩)
  have xD := ((World.putObj_heap_other (w := W') (r := l) (o := .loop (rc .exhausted none)) (show D ≠ l by omega)).trans (h3 D hMD (by omega))).trans HD1.out
  generalize W'.putObj l (.loop (rc .exhausted none)) = X at *
  have X1 := hI x1; have XD := hI xD
  clear x1 xD h1 h2 h3 h4 h5
  gi_wp2
  have hM : Marks w.heap.size X [mark D] := ⟨D, rfl, by omega, XD.out, by simp, trivial⟩
  exact post_tmp (B := w.heap.size) Tryz.results112 _ rfl hM fun w' hw' => ⟨by rw [HM.out]; rfl, _, ⟨T1, HU.out.hst _ _ _ _ X1.out (keep_of_shut hw' (HU.out.hnd _ _ _ X1.out))⟩, fun _ => rfl⟩
 ·exact hx.elim
end Go.Proofs.YtlgliddhideflaaGreatDoor
namespace Go.Proofs.YtlgliddhideflaaGreatDoor
open Go.RowKit Go.Shelf
theorem cells_keepF {S : Nat → Prop} {w w' : World} {A : Option Addr} {n c sz : Nat} {vs : List Value} (h : Cells w A n c sz vs) (hk : Keep S w w') (hS : 0 < n → ∀ ad, A = some ad → ¬ S ad.block) : Cells w' A n c sz vs := by
 obtain ⟨h1, h2, h3, h4, h5⟩ := h
 refine ⟨h1, h2, h3, h4, fun hn => ?_⟩
 obtain ⟨b, off, rfl, hlt, hc⟩ := h5 hn
 have hb := hk.block b hlt (hS hn _ rfl)
 exact ⟨b, off, rfl, Nat.lt_of_lt_of_le hlt hk.size, fun j v hv => (World.cell?_of_block hb).trans (hc j v hv)⟩
def stayN (L : List (List Snd × List Snd)) : Nat := (L.filter fun p => decide (p.1 = p.2)).length
theorem stay_yes {L : List (List Snd × List Snd)} {i : Nat} {x y : List Snd} (h : L[i]? = some (x, y)) (e : x = y) : stayN (L.take (i + 1)) = stayN (L.take i) + 1 := by
 unfold stayN
 rw [take_snoc' L i _ h, List.filter_append, List.filter_cons_of_pos (by simpa using e)]; simp
theorem stay_no {L : List (List Snd × List Snd)} {i : Nat} {x y : List Snd} (h : L[i]? = some (x, y)) (e : ¬ x = y) : stayN (L.take (i + 1)) = stayN (L.take i) := by
 unfold stayN
 rw [take_snoc' L i _ h, List.filter_append, List.filter_cons_of_neg (by simpa using e)]; simp
theorem stay_le (L : List (List Snd × List Snd)) : stayN L ≤ L.length := List.length_filter_le _ _
theorem outs_len {ls : List LawD} {ss : List Snd} {n : Nat} (hd : ss.Nodup) (h5 : ss.length ≤ 5) (hn : n ≤ 4) : (outsM11 ls ss n).length ≤ 625 := by
 have h1 : (outsM11 ls ss n).length ≤ (wordsM (alphaM ss) n).length := by
  unfold outsM11
  rw [List.length_map]
  exact List.length_filter_le _ _
 rw [words_len, alpha_len hd] at h1
 have h2 : ss.length ^ n ≤ 5 ^ 4 := Nat.le_trans (Nat.pow_le_pow_left h5 n) (Nat.pow_le_pow_right (by omega) hn)
 omega
theorem fixed1_c (Af : Option Addr) (nf cf : Nat) (x : List Snd) (At : Option Addr) (nt ct : Nat) (y : List Snd) (bc m : Nat) (w : World) (hx : IsWord w Af nf cf x) (hy : IsWord w At nt ct y)
  (hc : w.heap[bc]? = some (.cells #[.int .i64 m] 3 (0, 0))) (hm : m < 1000000) :
  Calls Tryz.prog 128 (#[.slice Af nf cf, .slice At nt ct] ++ #[.pointer (some ⟨bc, 0, none⟩)]) w fun e w' => (∃ v, e = .returned v) ∧ Keep (fun b => b = bc) w w' ∧
   w'.heap[bc]? = some (.cells #[.int .i64 (if x = y then m + 1 else m : Nat)] 3 (0, 0)) := by
 have hc1 := lt_of_block hc
 have HX := hI hx; have HY := hI hy; have HC := hI hc
 clear hx hy hc
 go_enter Tryz.func128, Tryz.ntmps128
 go_wp2_with fail
 refine (wEqual_c Af At nf nt cf ct x y w HX.out HY.out).mono ?_
 rintro e w1 ⟨rfl, hb1⟩
 have k1 := (hb1.block _ hc1).trans HC.out
 have c1 := cell_of_one k1
 have f1 := free_of_one k1
 have K1 := hI k1; have HB1 := hI hb1
 clear k1 hb1
 by_cases e : x = y
 ·rw [decide_eq_true e]
  have HE := hI e; clear e
  go_wp2
  refine bodyPost_end (results_none rfl _ _ _) rfl ?_
  have hcast : ((m : Int) + 1) = ((m + 1 : Nat) : Int) := by omega
  rw [hcast]
  exact ⟨⟨_, rfl⟩, Keep.setCell (S := fun b => b = bc) (keep_of_below HB1.out) (p := ⟨bc, 0, none⟩) rfl _, one_setCell K1.out⟩
 ·rw [decide_eq_false e]
  have HE := hI e; clear e
  go_wp2
  refine bodyPost_end (results_none rfl _ _ _) rfl ?_
  exact ⟨⟨_, rfl⟩, keep_of_below HB1.out, K1.out⟩
structure FxW (bc : Nat) (W1 : World) (m : Nat) (T : Nat → Prop) (W : World) : Prop where
 tw : T = fun b => b = bc
 lt : bc < W1.heap.size
 cn : W.heap[bc]? = some (.cells #[.int .i64 m] 3 (0, 0))
 kp : Keep (fun b => b = bc) W1 W
theorem FxW.keep {bc : Nat} {W1 : World} {m : Nat} {T : Nat → Prop} {W W' : World} (h : FxW bc W1 m T W) (hk : Keep (fun b => W1.heap.size ≤ b ∧ ¬ T b) W W') : FxW bc W1 m T W' := by
 obtain ⟨h1, h2, h3, h4⟩ := h
 have ho : ∀ b, b < W1.heap.size → W'.heap[b]? = W.heap[b]? := fun b hb => hk.block b (by have := h4.size; omega) (fun h => by omega)
 exact ⟨h1, h2, (ho _ h2).trans h3, ((h4.mono (S' := fun b => b = bc ∨ W1.heap.size ≤ b) fun _ e => .inl e).trans (hk.mono fun _ e => .inr e.1)).old fun b hb e => e.resolve_right (by omega)⟩
theorem fixed_c (x : LawR) (As : Option Addr) (ns cs : Nat) (ss : List Snd) (k : Int) (w : World) (hx : LawAt w x.l x.a) (hs : IsWord w As ns cs ss) (hT : TabOK w) :
  Calls Tryz.prog 51 #[lawV x.l x.a, .slice As ns cs, .int .i64 k] w fun e w' => e = .returned (.tuple #[.int .i64 (fixedM x.l ss k).2, .int .i64 (fixedM x.l ss k).1]) ∧ Below w.heap.size w w' := by
 have HX := hI hx; have HS := hI hs; have HT := hI hT
 clear hx hs hT
 obtain ⟨Wb, hWb, hrb, hlb, hBb, hzb⟩ := law_box w x.l x.a
 have hB0 : Below w.heap.size w (Wb.alloc (.cells #[.int .i64 0] 3)) := hBb.alloc hBb.size _
 have HL := hI (HX.out.below hB0 rr)
 go_enter Tryz.func51, Tryz.ntmps51
 go_wp2_with (first | (refine load_law rfl (.tmp 3) rfl w.heap.size x.l x.a rfl ((heap_old_at hlb).trans hrb) ?_) | (refine law1A rfl (.tmp 10) rfl x rfl HL.out ?hk))
 case hk =>
  intro X hl2 hb hzz _
  have hB : Below w.heap.size w X := hB0.trans (hb.mono (by have := hBb.size; omega))
  have hXc : X.heap[Wb.heap.size]? = some (.cells #[.int .i64 0] 3 (0, 0)) := (hb.block _ (by simp)).trans (heap_new_at rfl)
  clear hb hB0
  obtain ⟨bc, ebc⟩ : ∃ bc, bc = Wb.heap.size := ⟨_, rfl⟩
  rw [← ebc] at hl2 hzz hXc ⊢
  have hbw : w.heap.size ≤ bc := by have := hBb.size; omega
  clear ebc hrb hlb hBb hzb hWb
  have HB := hI hB; have HL2 := hI hl2; have HXC := hI hXc
  clear hB hl2 hXc
  go_wp2_with fail
  refine (became_c (some ⟨bc + 1, 0, none⟩) 1 1 [x] As ns cs ss k 128 #[.pointer (some ⟨bc, 0, none⟩)] X (fun i T W => FxW bc X (stayN ((outsM11 [x.l] ss k.toNat).take i)) T W) (fun b => b = bc) ?hu ?h0 (enters_of Tryz.func128 (by kernel_rfl) rfl)).mono ?_
  case h0 => exact ⟨rfl, by omega, HXC.out, Keep.refl _ _⟩
  case hu =>
   have HRD : ∀ X', Keep (fun b => b = bc) X X' → IsLaws X' (some ⟨bc + 1, 0, none⟩) 1 1 [x] ∧ IsWord X' As ns cs ss ∧ TabOK X' := by
    intro X' h
    have hX' : Below w.heap.size w X' := HB.out.trans (h.to_below (B := w.heap.size) (fun b hb => by omega) HB.out.size)
    refine ⟨⟨⟨cells_keepF HL2.out.1.1 h (fun _ ad e hh => by injection e with e; subst e; simp at hh), HL2.out.1.2⟩, fun y hy => ?_⟩, HS.out.below hX' rr, HT.out.below hX' rr⟩
    obtain rfl : y = x := by simpa using hy
    exact HX.out.below hX' rr
   refine ⟨fun i T W h => h.kp.size, fun i T W h b hb => ?hlt, fun i T W W' h hk => h.keep hk, fun i T W h b hb v e => ?hnd, fun i T W h => HRD W h.kp, ?hy⟩
   case hlt =>
    rw [h.tw] at hb
    have h1 := h.lt
    have h2 := h.kp.size
    have hb' : b = bc := hb
    omega
   case hnd =>
    rw [h.tw] at hb
    obtain rfl : b = bc := hb
    rw [h.cn] at e; cases e
   case hy =>
    intro i T W Af nf cf u At nt ct y hr hk4 hxi hwx hwy hfa hft h
    have hxi : (outsM11 [x.l] ss k.toNat)[i]? = some (u, y) := hxi
    have hr := (wrong_none hr).2.2
    have hlen := outs_len (ls := [x.l]) (refused_none hr).2.2 (refused_none hr).1 hk4
    have hi : i < (outsM11 [x.l] ss k.toNat).length := (List.getElem?_eq_some_iff.1 hxi).1
    have hm : stayN ((outsM11 [x.l] ss k.toNat).take i) ≤ i := Nat.le_trans (stay_le _) (by rw [List.length_take]; omega)
    refine (fixed1_c Af nf cf u At nt ct y bc _ W hwx hwy h.cn (by omega)).mono ?_
    rintro e W'' ⟨hv, hK, hc⟩
    have hT := h.tw
    refine ⟨hv, by rw [hT]; exact hK, T, ⟨hT, h.lt, ?_, h.kp.trans hK⟩, fun b hb => .inl hb⟩
    rw [hc]
    by_cases hu : u = y
    ·rw [if_pos hu, stay_yes hxi hu]
    ·rw [if_neg hu, stay_no hxi hu]
  rintro e w2 ⟨rfl, i, T, hJ, hi⟩
  have hB2 : Below w.heap.size w w2 := HB.out.trans (hJ.kp.to_below (B := w.heap.size) (fun b hb => by omega) HB.out.size)
  have c2 := cell_of_one hJ.cn
  obtain ⟨er, her⟩ : ∃ er, er = shortM [x.l] ss k := ⟨_, rfl⟩
  have hld : lawsD [x] = [x.l] := rfl
  rw [hld] at hi ⊢
  rw [← her] at hi ⊢
  have HER := hI her; clear her
  by_cases h0 : er = 0
  ·have h1 : (er != 0) = false := by simpa using h0
   have HM : Hid (fixedM x.l ss k = (0, ((stayN ((outsM11 [x.l] ss k.toNat).take i) : Nat) : Int))) := by
    show _ = _
    unfold fixedM
    rw [← HER.out, if_neg (by simpa using h0), hi h0, List.take_length]; rfl
   have HB2 := hI hB2
   clear h0 hi hJ hB2
   go_wp2
   exact bodyPost_ret (results_tmp2 Tryz.results51 _ _ _) rfl ⟨by rw [HM.out]; rfl, HB2.out⟩
  ·have h1 : (er != 0) = true := by simpa using h0
   have HM : Hid (fixedM x.l ss k = (er, 0)) := by
    show _ = _
    unfold fixedM
    rw [← HER.out, if_pos h0]
   have HB2 := hI hB2
   clear h0 hi hJ hB2 c2
   go_wp2
   exact bodyPost_ret (results_tmp2 Tryz.results51 _ _ _) rfl ⟨by rw [HM.out]; rfl, HB2.out⟩
theorem image1_c (b7 : Nat) (E : Nat → Prop) (W1 : World) (vw : Value) (ps : List Part) (Af : Option Addr) (nf cf : Nat) (At : Option Addr) (nt ct : Nat) (y : List Snd) (w : World) (h : CapU b7 E W1 vw ps w) (hy : IsWord w At nt ct y)
  (hf : ∀ ad, At = some ad → W1.heap.size ≤ ad.block ∧ ¬ capT b7 E vw ps ad.block) (hl : ps.length ≤ 4000) :
  Calls Tryz.prog 113 (#[.slice Af nf cf, .slice At nt ct] ++ #[.pointer (some ⟨b7, 0, none⟩)]) w fun e X => (∃ v, e = .returned v) ∧ ∃ vw', CapU b7 E W1 vw' (ps ++ [(At, nt, ct, y)]) X ∧ Keep (capT b7 E vw ps) w X ∧
   ∀ k, capT b7 E vw' (ps ++ [(At, nt, ct, y)]) k → capT b7 E vw ps k ∨ w.heap.size ≤ k ∨ (0 < nt ∧ ∃ ad, At = some ad ∧ ad.block = k) := by
 have c7 := cell_of_one h.c7
 have hw1 : W1.heap.size ≤ w.heap.size := h.kp.size
 have h7 := lt_of_block h.c7
 have h71 := h.lt.1
 obtain ⟨A7, k7, rfl⟩ := own_form h.o7
 have HC := hI h; have HY := hI hy; have HF := hI hf
 clear h hy hf
 go_enter Tryz.func113, Tryz.ntmps113
 go_wp2_with (at_builtin; refine append_wd rfl (.tmp 5) (.tmp 7) rfl W1.heap.size (.slice A7 ps.length k7) ps.length (ps.map Part.val) rfl (HC.out.o7.alloc _) ⟨w.heap.size, 0, none⟩ 1 (.slice At nt ct) rfl (cell_one_new _ _ _) rfl (by omega) ?hz2 ?hc2)
 case hz2 => simp; omega
 case hc2 =>
  intro vw' X2 hown hg hat
  obtain ⟨A9, k9, rfl⟩ := own_form hown
  have hn7 : some b7 ≠ (Value.slice A7 ps.length k7).ownBlock := fun e => by have := (HC.out.o7.lt b7 e.symm).1; omega
  have x7 := (hg.block b7 (by simp; omega) hn7).trans ((heap_old_at h7).trans HC.out.c7)
  have c7' := cell_of_one x7
  have f7' := free_of_one x7
  obtain ⟨p1, p2, p3⟩ := HC.out.push (Below.refl _ _) HY.out HF.out hown hg (by rw [World.size_alloc]; exact hat)
  have P1 := hI p1; have P2 := hI p2; have P3 := hI p3
  clear p1 p2 p3 hown hg hat x7 c7
  go_wp2
  refine bodyPost_end (results_none rfl _ _ _) rfl ?_
  exact ⟨⟨_, rfl⟩, _, P1.out, P2.out, P3.out⟩
theorem compact_snoc {α : Type} [DecidableEq α] : ∀ (l : List α) (x y : α), compactL (l ++ [x, y]) = if x = y then compactL (l ++ [x]) else compactL (l ++ [x]) ++ [y]
 | [], x, y => by
  by_cases h : x = y
  ·subst h; simp [compactL]
  ·simp [compactL, h]
 | [a], x, y => by
  have ih := compact_snoc [] x y
  simp only [List.nil_append] at ih
  by_cases h : a = x
  ·subst h
   by_cases h2 : a = y
   ·subst h2; simp [compactL]
   ·simp [compactL, h2]
  ·by_cases h2 : x = y
   ·subst h2; simp [compactL, h]
   ·simp [compactL, h, h2]
 | a :: b :: l, x, y => by
  have ih := compact_snoc (b :: l) x y
  show (if a = b then compactL (b :: (l ++ [x, y])) else a :: compactL (b :: (l ++ [x, y]))) = if x = y then (if a = b then compactL (b :: (l ++ [x])) else a :: compactL (b :: (l ++ [x]))) else (if a = b then compactL (b :: (l ++ [x])) else a :: compactL (b :: (l ++ [x]))) ++ [y]
  rw [List.cons_append, List.cons_append] at ih
  rw [ih]
  by_cases h : a = b <;> by_cases h2 : x = y <;> simp [h, h2]
theorem comp_step {α : Type} [DecidableEq α] {W : List α} {k : Nat} {x y : α} (hk : 1 ≤ k) (hx : W[k - 1]? = some x) (hy : W[k]? = some y) : compactL (W.take (k + 1)) = if x = y then compactL (W.take k) else compactL (W.take k) ++ [y] := by
 have e1 : W.take k = W.take (k - 1) ++ [x] := by
  have := take_snoc' W (k - 1) x hx
  rwa [show k - 1 + 1 = k by omega] at this
 rw [take_snoc' W k y hy, e1, List.append_assoc]
 exact compact_snoc _ x y
theorem comp_one {α : Type} [DecidableEq α] (W : List α) : compactL (W.take 1) = W.take 1 := by
 cases W with
 | nil => rfl
 | cons a W => rfl
structure CpR (g : Nat) (ps : List Part) (w : World) (m : Nat) (C : List Part) (W : World) : Prop where
 kp : Keep (fun k => k = g) w W
 le : C.length ≤ m
 wd : C.map Part.word = compactL ((ps.map Part.word).take m)
 mem : ∀ p ∈ C, p ∈ ps
 row : ∃ cur : Array Value, W.heap[g]? = some (.cells cur 32 (0, 0)) ∧ ∀ (j : Nat) (p : Part), (C ++ ps.drop C.length)[j]? = some p → cur[j]? = some p.val
namespace CpR
variable {g : Nat} {ps : List Part} {w W : World} {m : Nat} {C : List Part}
theorem cell (h : CpR g ps w m C W) {j : Nat} {p : Part} (hj : C.length ≤ j) (hp : ps[j]? = some p) : W.cell? ⟨g, j, none⟩ = some p.val := by
 obtain ⟨cur, h1, h2⟩ := h.row
 have h3 := h2 j p (by rw [List.getElem?_append_right hj, List.getElem?_drop]; rw [← hp]; congr 1; omega)
 simp [World.cell?, h1, h3]
theorem free (h : CpR g ps w m C W) (j : Nat) : W.frozen? ⟨g, j, none⟩ = false := by
 obtain ⟨cur, h1, h2⟩ := h.row
 simp [World.frozen?, h1]
theorem skip (h : CpR g ps w m C W) {x y : Part} (hm : 1 ≤ m) (hx : ps[m - 1]? = some x) (hy : ps[m]? = some y) (e : y.word = x.word) : CpR g ps w (m + 1) C W := by
 refine ⟨h.kp, Nat.le_succ_of_le h.le, ?_, h.mem, h.row⟩
 rw [h.wd, comp_step hm (x := x.word) (y := y.word) (by rw [List.getElem?_map, hx]; rfl) (by rw [List.getElem?_map, hy]; rfl), if_pos e.symm]
theorem put (h : CpR g ps w m C W) {x y : Part} (hm : 1 ≤ m) (hx : ps[m - 1]? = some x) (hy : ps[m]? = some y) (e : ¬ y.word = x.word) : CpR g ps w (m + 1) (C ++ [y]) (W.setCell ⟨g, C.length, none⟩ y.val) := by
 obtain ⟨cur, h1, h2⟩ := h.row
 refine ⟨h.kp.setCell (p := ⟨g, C.length, none⟩) rfl _, by rw [List.length_append]; have := h.le; simp; omega, ?_, fun p hp => ?_, ?_⟩
 ·rw [List.map_append, h.wd, comp_step hm (x := x.word) (y := y.word) (by rw [List.getElem?_map, hx]; rfl) (by rw [List.getElem?_map, hy]; rfl), if_neg (fun e' => e e'.symm)]; rfl
 ·rcases List.mem_append.1 hp with hp | hp
  ·exact h.mem p hp
  ·obtain rfl : p = y := by simpa using hp
   exact List.mem_of_getElem? hy
 ·refine ⟨cur.setIfInBounds C.length y.val, ?_, fun j p hj => ?_⟩
  ·simp [World.setCell, Array.getElem?_modify, h1]
  ·have hcl : C.length < cur.size := by
    have hml : C.length < ps.length := by have := h.le; have := (List.getElem?_eq_some_iff.1 hy).1; omega
    have h5 := h2 C.length _ (by rw [List.getElem?_append_right rr, Nat.sub_self, List.getElem?_drop]; exact List.getElem?_eq_getElem hml)
    exact (Array.getElem?_eq_some_iff.1 h5).1
   rw [List.length_append, List.length_singleton] at hj
   rw [Array.getElem?_setIfInBounds]
   by_cases ej : C.length = j
   ·subst ej
    rw [List.append_assoc, List.getElem?_append_right rr, Nat.sub_self] at hj
    obtain rfl : y = p := by simpa using hj
    rw [if_pos rfl, if_pos hcl]
   ·rw [if_neg ej]
    refine h2 j p ?_
    rcases Nat.lt_or_ge j C.length with hl | hl
    ·rw [List.getElem?_append_left hl]
     rw [List.append_assoc, List.getElem?_append_left hl] at hj
     exact hj
    ·rw [List.getElem?_append_right hl, List.getElem?_drop]
     rw [List.getElem?_append_right (by simp; omega), List.length_append, List.length_singleton, List.getElem?_drop] at hj
     rw [← hj]; congr 1; omega
theorem start {cur : Array Value} (hg : w.heap[g]? = some (.cells cur 32 (0, 0))) (hc : ∀ (j : Nat) (p : Part), ps[j]? = some p → cur[j]? = some p.val) {k : Nat} (hk : k ≤ ps.length) (h : compactL ((ps.map Part.word).take k) = (ps.map Part.word).take k) : CpR g ps w k (ps.take k) w := by
 refine ⟨Keep.refl _ _, by rw [List.length_take]; omega, by rw [h, List.map_take], fun p hp => List.mem_of_mem_take hp, cur, hg, fun j p hj => ?_⟩
 rw [List.length_take, Nat.min_eq_left hk, List.take_append_drop] at hj
 exact hc j p hj
theorem move {W' : World} (h : CpR g ps w m C W) (hk : Keep (fun _ => False) W W') : CpR g ps w m C W' := by
 obtain ⟨cur, h1, h2⟩ := h.row
 exact ⟨h.kp.trans (hk.mono fun _ e => e.elim), h.le, h.wd, h.mem, cur, (hk.block _ (lt_of_block h1) (fun e => e)).trans h1, h2⟩
end CpR
theorem setCells_row {g : Nat} {t : TypeId} {fz : Nat × Nat} : ∀ (vs : List Value) (o : Nat) (W : World) (cur : Array Value), W.heap[g]? = some (.cells cur t fz) →
  Keep (fun k => k = g) W (W.setCells g o vs) ∧ ∃ cur' : Array Value, (W.setCells g o vs).heap[g]? = some (.cells cur' t fz) ∧ ∀ j, j < o → cur'[j]? = cur[j]?
 | [], o, W, cur, h => ⟨Keep.refl _ _, cur, h, fun _ _ => rfl⟩
 | v :: r, o, W, cur, h => by
  have h1 : (W.setCell ⟨g, o, none⟩ v).heap[g]? = some (.cells (cur.setIfInBounds o v) t fz) := by simp [World.setCell, Array.getElem?_modify, h]
  obtain ⟨k1, cur', h2, h3⟩ := setCells_row r (o + 1) (W.setCell ⟨g, o, none⟩ v) _ h1
  refine ⟨((Keep.refl (fun k => k = g) W).setCell (p := ⟨g, o, none⟩) rfl v).trans k1, cur', h2, fun j hj => ?_⟩
  rw [h3 j (by omega), Array.getElem?_setIfInBounds, if_neg (by omega)]
structure CpOut (g : Nat) (ps : List Part) (w : World) (C : List Part) (W : World) : Prop where
 kp : Keep (fun k => k = g) w W
 wd : C.map Part.word = compactL (ps.map Part.word)
 mem : ∀ p ∈ C, p ∈ ps
 row : ∃ cur : Array Value, W.heap[g]? = some (.cells cur 32 (0, 0)) ∧ ∀ (j : Nat) (p : Part), C[j]? = some p → cur[j]? = some p.val
theorem compactWds_c (g cap : Nat) (ps : List Part) (w : World) (cur : Array Value) (hg : w.heap[g]? = some (.cells cur 32 (0, 0))) (hc : ∀ (j : Nat) (p : Part), ps[j]? = some p → cur[j]? = some p.val)
  (hp : ∀ p ∈ ps, IsWord w p.1 p.2.1 p.2.2.1 p.2.2.2 ∧ (0 < p.2.1 → ∀ ad, p.1 = some ad → ad.block ≠ g)) (hn : ps.length ≤ 4000) (hcap : ps.length ≤ cap) :
  Calls Tryz.prog 119 #[.slice (some ⟨g, 0, none⟩) ps.length cap, .func (.func 120) #[] #[]] w fun e w' => ∃ C : List Part, e = .returned (.slice (some ⟨g, 0, none⟩) C.length cap) ∧ CpOut g ps w C w' := by
 obtain ⟨n, hnl⟩ : ∃ n, n = ps.length := ⟨_, rfl⟩
 have HP : Hid (∀ X, Keep (fun k => k = g) w X → ∀ p ∈ ps, IsWord X p.1 p.2.1 p.2.2.1 p.2.2.2) := fun X hK p hm => (hp p hm).1.keep hK (hp p hm).2
 have HST : Hid (∀ k, k ≤ ps.length → compactL ((ps.map Part.word).take k) = (ps.map Part.word).take k → CpR g ps w k (ps.take k) w) := fun k hk h => CpR.start hg hc hk h
 have HEND : Hid (∀ X, Keep (fun _ => False) w X → compactL (ps.map Part.word) = ps.map Part.word → CpOut g ps w ps X) :=
  fun X hX h => ⟨hX.mono fun _ e => e.elim, h.symm, fun p hp => hp, cur, (hX.block _ (lt_of_block hg) (fun e => e)).trans hg, hc⟩
 have HCELL : Hid (∀ X, Keep (fun _ => False) w X → ∀ (j : Nat) (p : Part), ps[j]? = some p → X.cell? ⟨g, j, none⟩ = some p.val) := fun X hX j p hj => by
  have h1 := (hX.block _ (lt_of_block hg) (fun e => e)).trans hg
  simp [World.cell?, h1, hc j p hj]
 rw [← hnl] at hn hcap ⊢
 have HNL : Hid (ps.length = n) := hnl.symm
 clear hp hg hc hnl
 go_enter Tryz.func119, Tryz.ntmps119
 by_cases h2 : (n : Int) < 2
 ·go_wp2
  go_ret
  have hl := HNL.out
  refine ⟨ps, by rw [hl]; rfl, HEND.out _ (Keep.refl _ _) ?_⟩
  have h1 := comp_one (ps.map Part.word)
  rwa [List.take_of_length_le (by rw [List.length_map]; omega)] at h1
 go_wp2
 go_loopw [5] (fun vk wr => ∃ k : Nat, vk = .int .i64 k ∧ 1 ≤ k ∧ k ≤ n ∧ Hid (compactL ((ps.map Part.word).take k) = (ps.map Part.word).take k) ∧ Hid (Keep (fun _ => False) w wr)) (fun vk _ => n - (intOf vk).toNat)
 case atStart => exact ⟨1, rfl, rr, by omega, comp_one _, Keep.refl _ _⟩
 case round =>
  obtain ⟨k, rfl, hk1, hkn, HC, HK⟩ := hrel
  by_cases hlt : (k : Int) < (n : Int)
  ·have hkl : k < n := by omega
   obtain ⟨⟨Ax, nx, cx, wx⟩, hx⟩ : ∃ x, ps[k - 1]? = some x := ⟨ps[k - 1]'(by rw [HNL.out]; omega), List.getElem?_eq_getElem _⟩
   obtain ⟨⟨Ay, ny, cy, wy⟩, hy⟩ : ∃ y, ps[k]? = some y := ⟨ps[k]'(by rw [HNL.out]; omega), List.getElem?_eq_getElem _⟩
   have ex : wr.cell? ⟨g, k - 1, none⟩ = some (.slice Ax nx cx) := HCELL.out wr HK.out _ _ hx
   have ey : wr.cell? ⟨g, k, none⟩ = some (.slice Ay ny cy) := HCELL.out wr HK.out _ _ hy
   have hqx : IsWord wr.drew Ax nx cx wx := HP.out wr.drew ((HK.out.mono fun _ e => e.elim).drew) _ (List.mem_of_getElem? hx)
   have hqy : IsWord wr.drew Ay ny cy wy := HP.out wr.drew ((HK.out.mono fun _ e => e.elim).drew) _ (List.mem_of_getElem? hy)
   obtain ⟨i1, hi1⟩ : ∃ i1 : Nat, i1 = k - 1 := ⟨_, rfl⟩
   have hw1 : IntKind.i64.wrap ((k : Int) - 1) = (i1 : Int) := by rw [IntWalk.i64_in _ (by omega)]; omega
   rw [← hi1] at ex
   have h1n : i1 < n := by omega
   clear hi1
   have HQX := hI hqx; have HQY := hI hqy
   have HX := hI hx; have HY := hI hy
   clear hx hy hqx hqy
   go_wp2_with fail
   refine plain_region (fun W' => W'.cell? ⟨g, i1, none⟩ = some (.slice Ax nx cx) ∧ W'.cell? ⟨g, k, none⟩ = some (.slice Ay ny cy)) (by kernel_rfl) ⟨ex, ey⟩ (fun hHeld => ?_)
   (refine' anyT_tk 0 rfl ?_; (try simp only [Act.put, nY, nX])); (refine' anyT_tk 1 rfl ?_; (try simp only [Act.put, nY, nX])); (refine' anyT_tk 2 rfl ?_; (try simp only [Act.put, nY, nX])); (refine' anyT_tk 3 rfl ?_; (try simp only [Act.put, nY, nX])); (refine' anyT_tk 4 rfl ?_; (try simp only [Act.put, nY, nX])); (refine' anyT_tk 5 rfl ?_; (try simp only [Act.put, nY, nX])); (refine' anyT_tk 6 rfl ?_; (try simp only [Act.put, nY, nX])); (refine' anyT_tk 7 rfl ?_; (try simp only [Act.put, nY, nX])); (refine' anyT_tk 8 rfl ?_; (try simp only [Act.put, nY, nX])); (refine' anyT_tk 9 rfl ?_; (try simp only [Act.put, nY, nX]))
   (refine anyT_sp 10 rfl (fun K' hK' => ?_); simp only [nY]; go_simp)
   refine (image3_c Ay ny cy wy Ax nx cx wx _ (wEqual_c Ay Ax ny nx cy cx wy wx _ HQY.out HQX.out)).mono ?_
   rintro e w1 ⟨rfl, hb1⟩
   refine hK' _ _ ⟨.inl (by kernel_rfl), fun _ => anyT_done (by kernel_rfl) ?_ _⟩
   clear hK' K' hHeld ex ey
   have HK1 : Hid (Keep (fun _ => False) w w1) := HK.out.drew.trans (keep_of_below hb1)
   clear hb1
   by_cases he : wy = wx
   ·rw [decide_eq_true he]
    have HE := hI he; clear he
    have HR : Hid (CpR g ps w (k + 1) (ps.take k) w1) := ((HST.out k (by rw [HNL.out]; omega) HC.out).move HK1.out).skip hk1 HX.out HY.out HE.out
    clear HX HY HQX HQY HE h1n hw1
    go_wp2_with fail
    go_loopw [5, 7] (fun vk v7 wr2 => ∃ (i k2 : Nat) (C : List Part), vk = .int .i64 i ∧ v7 = .int .i64 k2 ∧ 1 ≤ k2 ∧ k + k2 ≤ n ∧ C.length = i ∧ i < k + k2 ∧ Hid (CpR g ps w (k + k2) C wr2)) (fun _ v7 _ => n - (intOf v7).toNat)
    case atStart => exact ⟨k, 1, ps.take k, rfl, rfl, rr, by omega, by rw [List.length_take, HNL.out]; omega, by omega, HR⟩
    case round =>
     clear HR HK1 HK
     obtain ⟨i, k2, C, rfl, rfl, hk21, hkk, hCl, hik, HR⟩ := hrel
     have HCL := hI hCl; clear hCl
     by_cases hlt2 : (k2 : Int) < ((n - k : Nat) : Int)
     ·obtain ⟨⟨Ax, nx, cx, wx⟩, hx⟩ : ∃ x, ps[k + k2 - 1]? = some x := ⟨ps[k + k2 - 1]'(by rw [HNL.out]; omega), List.getElem?_eq_getElem _⟩
      obtain ⟨⟨Ay, ny, cy, wy⟩, hy⟩ : ∃ y, ps[k + k2]? = some y := ⟨ps[k + k2]'(by rw [HNL.out]; omega), List.getElem?_eq_getElem _⟩
      obtain ⟨i1, hi1⟩ : ∃ i1 : Nat, i1 = k2 - 1 := ⟨_, rfl⟩
      have hw1 : IntKind.i64.wrap ((k2 : Int) - 1) = (i1 : Int) := by rw [IntWalk.i64_in _ (by omega)]; omega
      have ex : wr.cell? ⟨g, k + i1, none⟩ = some (.slice Ax nx cx) := HR.out.cell (p := (Ax, nx, cx, wx)) (by rw [HCL.out]; omega) (by rw [hi1, ← hx]; congr 1; omega)
      have ey : wr.cell? ⟨g, k + k2, none⟩ = some (.slice Ay ny cy) := HR.out.cell (p := (Ay, ny, cy, wy)) (by rw [HCL.out]; omega) hy
      have hqx : IsWord wr.drew Ax nx cx wx := HP.out wr.drew HR.out.kp.drew _ (List.mem_of_getElem? hx)
      have hqy : IsWord wr.drew Ay ny cy wy := HP.out wr.drew HR.out.kp.drew _ (List.mem_of_getElem? hy)
      have h1n : i1 < n - k := by omega
      clear hi1
      have HQX := hI hqx; have HQY := hI hqy; have HX := hI hx; have HY := hI hy
      clear hx hy hqx hqy
      go_wp2_with fail
      refine plain_region (fun W' => W'.cell? ⟨g, k + i1, none⟩ = some (.slice Ax nx cx) ∧ W'.cell? ⟨g, k + k2, none⟩ = some (.slice Ay ny cy)) (by kernel_rfl) ⟨ex, ey⟩ (fun hHeld => ?_)
      (refine' anyT_tk 0 rfl ?_; (try simp only [Act.put, nY, nX])); (refine' anyT_tk 1 rfl ?_; (try simp only [Act.put, nY, nX])); (refine' anyT_tk 2 rfl ?_; (try simp only [Act.put, nY, nX])); (refine' anyT_tk 3 rfl ?_; (try simp only [Act.put, nY, nX])); (refine' anyT_tk 4 rfl ?_; (try simp only [Act.put, nY, nX])); (refine' anyT_tk 5 rfl ?_; (try simp only [Act.put, nY, nX])); (refine' anyT_tk 6 rfl ?_; (try simp only [Act.put, nY, nX])); (refine' anyT_tk 7 rfl ?_; (try simp only [Act.put, nY, nX])); (refine' anyT_tk 8 rfl ?_; (try simp only [Act.put, nY, nX])); (refine' anyT_tk 9 rfl ?_; (try simp only [Act.put, nY, nX]))
      (refine anyT_sp 10 rfl (fun K' hK' => ?_); simp only [nY]; go_simp)
      refine (image3_c Ay ny cy wy Ax nx cx wx _ (wEqual_c Ay Ax ny nx cy cx wy wx _ HQY.out HQX.out)).mono ?_
      rintro e w2 ⟨rfl, hb2⟩
      have hK2 : Keep (fun _ => False) wr w2 := (Keep.refl _ wr).drew.trans (keep_of_below hb2)
      have HR2 : Hid (CpR g ps w (k + k2) C w2) := HR.out.move hK2
      have ey2 : w2.cell? ⟨g, k + k2, none⟩ = some (.slice Ay ny cy) := HR2.out.cell (p := (Ay, ny, cy, wy)) (by rw [HCL.out]; omega) HY.out
      have ex2 : w2.cell? ⟨g, k + i1, none⟩ = some (.slice Ax nx cx) := by
       obtain ⟨cur2, hc2, _⟩ := HR.out.row
       exact (World.cell?_of_block (hK2.block g (lt_of_block hc2) (fun e => e))).trans ex
      refine hK' _ _ ⟨.inr ⟨ex2, ey2⟩, fun _ => ?_⟩
      clear hK' K' hHeld ex ey hb2 hK2 HR
      (try simp only [Act.put, nY, nX])
      by_cases he : wy = wx
      ·rw [decide_eq_true he]
       have HR3 : Hid (CpR g ps w (k + k2 + 1) C w2) := HR2.out.skip (by omega) HX.out HY.out he
       clear he
       (refine anyT_sp 11 rfl (fun K' hK' => ?_); simp only [nY]; go_simp)
       refine hK' _ _ ⟨.inl (by kernel_rfl), fun _ => anyT_done (by kernel_rfl) ?_ _⟩
       clear hK' K' ex2 ey2
       go_wp2
       go_roundw
       case rel => first | exact ⟨i, k2 + 1, C, rfl, by go_num, by omega, by omega, HCL.out, by omega, HR3⟩ | ((repeat apply Exists.intro); exact ⟨⟨i, k2 + 1, C, rfl, by go_num, by omega, by omega, HCL.out, by omega, HR3⟩, rfl⟩)
       case measure => simp [intOf]; omega
      ·rw [decide_eq_false he]
       (refine anyT_sp 11 rfl (fun K' hK' => ?_); simp only [nY]; go_simp)
       refine hK' _ _ ⟨.inl (by kernel_rfl), fun _ => anyT_done (by kernel_rfl) ?_ _⟩
       clear hK' K' ex2
       have HR3 : Hid (CpR g ps w (k + k2 + 1) (C ++ [(Ay, ny, cy, wy)]) (w2.setCell ⟨g, i, none⟩ (.slice Ay ny cy))) := by
        have h5 := HR2.out.put (by omega) HX.out HY.out he
        rw [HCL.out] at h5
        exact h5
       have cz : ∃ v, w2.cell? ⟨g, i, none⟩ = some v := ⟨_, HR2.out.cell (j := i) (Nat.le_of_eq HCL.out) (List.getElem?_eq_getElem (by rw [HNL.out]; omega))⟩
       obtain ⟨vz, cz⟩ := cz
       have fz := HR2.out.free i
       clear he
       go_wp2
       go_roundw
       case rel => first | exact ⟨i + 1, k2 + 1, _, by go_num, by go_num, by omega, by omega, by rw [List.length_append, HCL.out]; rfl, by omega, HR3⟩ | ((repeat apply Exists.intro); exact ⟨⟨i + 1, k2 + 1, _, by go_num, by go_num, by omega, by omega, by rw [List.length_append, HCL.out]; rfl, by omega, HR3⟩, rfl⟩)
       case measure => simp [intOf]; omega
     ·have hcl : ∀ ty, (Builtin.clear_ #[46] ty #[.slice (some ⟨g, i, none⟩) (n - i) (cap - i)]).run Tryz.prog wr = .ok (.tuple #[]) (wr.setCells g i (List.replicate (n - i) (.slice none 0 0))) :=
       fun ty => Lib.run_clear_slice wr _ _ ty _ Tryz.underlying46 Tryz.zeroValue32 rfl rfl g i _ _ (by omega) (fun j hj => by
        rw [HR.out.cell (j := i + j) (by rw [HCL.out]; omega) (List.getElem?_eq_getElem (by rw [HNL.out]; omega))]; rfl) (fun j hj => HR.out.free (i + j))
      have HO : Hid (CpOut g ps w C (wr.setCells g i (List.replicate (n - i) (.slice none 0 0)))) := by
       obtain ⟨cur9, h5, h6⟩ := HR.out.row
       obtain ⟨k1, cur', h7, h8⟩ := setCells_row (List.replicate (n - i) (.slice none 0 0)) i wr cur9 h5
       have hwd := HR.out.wd
       rw [List.take_of_length_le (by rw [List.length_map, HNL.out]; omega)] at hwd
       refine ⟨HR.out.kp.trans k1, hwd, HR.out.mem, cur', h7, fun j p hj => ?_⟩
       have hjl := (List.getElem?_eq_some_iff.1 hj).1
       rw [h8 j (by have := HCL.out; omega)]
       exact h6 j p (by rw [List.getElem?_append_left hjl]; exact hj)
      generalize (wr.setCells g i (List.replicate (n - i) (.slice none 0 0))) = W9 at *
      go_wp2
      go_ret
      exact ⟨C, by rw [HCL.out]; rfl, HO.out⟩
   ·rw [decide_eq_false he]
    have HC2 : Hid (compactL ((ps.map Part.word).take (k + 1)) = (ps.map Part.word).take (k + 1)) := by
     show _ = _
     rw [comp_step hk1 (x := wx) (y := wy) (by rw [List.getElem?_map, HX.out]; rfl) (by rw [List.getElem?_map, HY.out]; rfl), if_neg (fun e => he e.symm), HC.out, take_snoc' _ k wy (by rw [List.getElem?_map, HY.out]; rfl)]
    clear he
    go_wp2
    go_roundw
    case rel => first | exact ⟨k + 1, by go_num, by omega, by omega, HC2, HK1⟩ | ((repeat apply Exists.intro); exact ⟨⟨k + 1, by go_num, by omega, by omega, HC2, HK1⟩, rfl⟩)
    case measure => simp [intOf]; omega
  ·have hkl : k = n := by omega
   go_wp2
   go_ret
   have hl := HNL.out
   refine ⟨ps, by rw [hl]; rfl, HEND.out _ HK.out ?_⟩
   have h1 := HC.out
   rwa [List.take_of_length_le (by rw [List.length_map]; omega)] at h1
theorem compact0_c (p : Option Addr) (c : Nat) (v : Value) (w : World) : Calls Tryz.prog 119 #[.slice p 0 c, v] w fun e w' => e = .returned (.slice p 0 c) ∧ w' = w := by
 go_enter Tryz.func119, Tryz.ntmps119
 go_wp2
 go_ret
 exact ⟨rfl, rfl⟩
theorem own_cells1 {w : World} {base : Nat} {v : Value} {ps : List Part} (h : w.ownsRow base 32 1 v ps.length (ps.map Part.val)) (h0 : 0 < ps.length) :
  ∃ (g cap : Nat) (cur : Array Value), v = .slice (some ⟨g, 0, none⟩) ps.length cap ∧ base ≤ g ∧ w.heap[g]? = some (.cells cur 32 (0, 0)) ∧ ps.length ≤ cap ∧ cap ≤ maxLen ∧ ∀ (j : Nat) (p : Part), ps[j]? = some p → cur[j]? = some p.val := by
 obtain ⟨h1, ⟨e0, e1⟩ | ⟨g, cap, cur, e0, hb, hg, hn, hm, hs, ht⟩⟩ := h
 ·omega
 ·refine ⟨g, cap, cur, e0, hb, hg, hn, hm, fun j p hj => ?_⟩
  have hjl := (List.getElem?_eq_some_iff.1 hj).1
  have h5 := congrArg (fun x : List Value => x[j]?) ht
  simp only [List.getElem?_take, Nat.mul_one] at h5
  rw [if_pos (by omega), Array.getElem?_toList, List.getElem?_map, hj] at h5
  exact h5
theorem compactL_len {α : Type} [DecidableEq α] : ∀ l : List α, (compactL l).length ≤ l.length
 | [] => rr
 | [x] => rr
 | x :: y :: r => by
  have ih := compactL_len (y :: r)
  show (if x = y then compactL (y :: r) else x :: compactL (y :: r)).length ≤ _
  by_cases h : x = y
  ·rw [if_pos h]; simp at *; omega
  ·rw [if_neg h]; simp at *; omega
theorem short_zero {ls : List LawD} {ss : List Snd} {n : Int} (h : shortM ls ss n = 0) : wrongM ls [] ss = 0 ∧ 0 ≤ n ∧ n ≤ 4 := by
 by_cases h1 : wrongM ls [] ss = 0
 ·by_cases h2 : n < 0 ∨ 4 < n
  ·rw [short_range h1 h2] at h; cases h
  ·exact ⟨h1, by omega, by omega⟩
 ·rw [short_bad h1] at h; exact absurd h h1
theorem short_outs {ls : List LawD} {ss : List Snd} {n : Int} (h : shortM ls ss n = 0) : (outsM11 ls ss n.toNat).length ≤ 625 := by
 obtain ⟨h1, h2, h3⟩ := short_zero h
 have hr := (wrong_none h1).2.2
 exact outs_len (refused_none hr).2.2 (refused_none hr).1 (by omega)
theorem image_c (A : Option Addr) (n c : Nat) (xs : List LawR) (As : Option Addr) (ns cs : Nat) (ss : List Snd) (k : Int) (w : World) (hx : IsLaws w A n c xs) (hs : IsWord w As ns cs ss) (hT : TabOK w) :
  Calls Tryz.prog 46 #[.slice A n c, .slice As ns cs, .int .i64 k] w (RetWsE w (imageM (lawsD xs) ss k)) := by
 have HX := hI hx; have HS := hI hs; have HT := hI hT
 clear hx hs hT
 go_enter Tryz.func46, Tryz.ntmps46
 go_wp2_with fail
 have hB : Below w.heap.size w (w.alloc (.cells #[.slice none 0 0] 46)) := bel
 have hc7 : (w.alloc (.cells #[.slice none 0 0] 46)).heap[w.heap.size]? = some (.cells #[.slice none 0 0] 46 (0, 0)) := hpt
 generalize w.alloc (.cells #[.slice none 0 0] 46) = W1 at *
 obtain ⟨b7, eb7⟩ : ∃ b7, b7 = w.heap.size := ⟨_, rfl⟩
 rw [← eb7] at hc7 ⊢
 have hbw : w.heap.size ≤ b7 := Nat.le_of_eq eb7.symm
 clear eb7
 have HB := hI hB; have HC7 := hI hc7
 clear hB hc7
 have hb7 := lt_of_block HC7.out
 refine (became_c A n c xs As ns cs ss k 113 #[.pointer (some ⟨b7, 0, none⟩)] W1 (fun i T X => ∃ vw ps, T = capT b7 (fun _ => False) vw ps ∧ ps.map Part.word = ((outsM11 (lawsD xs) ss k.toNat).take i).map (·.2) ∧ ps.length = i ∧ CapU b7 (fun _ => False) W1 vw ps X)
  (capT b7 (fun _ => False) (.slice none 0 0) []) ?hu ?h0 (enters_of Tryz.func113 (by kernel_rfl) rfl)).mono ?_
 case h0 => exact ⟨_, [], rfl, by simp, rfl, CapU.start hb7 (fun _ h => h.elim) HC7.out⟩
 case hu =>
  refine ⟨?hB, ?hlt, ?hst, ?hnd, ?hrd, ?hy⟩
  case hB => rintro i T X ⟨vw, ps, -, -, -, h⟩; exact h.kp.size
  case hlt => rintro i T X ⟨vw, ps, rfl, -, -, h⟩; exact h.lts
  case hst => rintro i T X X' ⟨vw, ps, rfl, h1, h2, h⟩ hk; exact ⟨vw, ps, rfl, h1, h2, h.keep hk⟩
  case hnd => rintro i T X ⟨vw, ps, rfl, -, -, h⟩; exact h.nds fun _ h => h.elim
  case hrd =>
   rintro i T X ⟨vw, ps, -, -, -, h⟩
   have hX : Below w.heap.size w X := HB.out.trans (h.kp.to_below (B := w.heap.size) (fun b hb => hb.elim (fun e => by omega) fun e => e.elim) HB.out.size)
   exact ⟨HX.out.below hX rr, HS.out.below hX rr, HT.out.below hX rr⟩
  case hy =>
   rintro i T X Af nf cf u At nt ct y hr hk4 hxi hwx hwy hfa hft ⟨vw, ps, rfl, h1, h2, h⟩
   have hr := (wrong_none hr).2.2
   have hlen := outs_len (ls := lawsD xs) (refused_none hr).2.2 (refused_none hr).1 hk4
   have hi : i < (outsM11 (lawsD xs) ss k.toNat).length := (List.getElem?_eq_some_iff.1 hxi).1
   refine (image1_c b7 (fun _ => False) W1 vw ps Af nf cf At nt ct y X h hwy hft (by omega)).mono ?_
   rintro e W'' ⟨hv, vw', g1, g2, g3⟩
   refine ⟨hv, g2, _, ⟨vw', _, rfl, ?_, by rw [List.length_append, h2]; rfl, g1⟩, fun b hb => ?_⟩
   ·rw [List.map_append, h1, take_snoc' _ i _ hxi, List.map_append]; rfl
   ·rcases g3 b hb with h | h | h
    ·exact .inl h
    ·exact .inr (.inl h)
    ·exact .inr (.inr (.inr h))
 rintro e X ⟨rfl, i, T, ⟨vw, ps, -, hwd, hln, hC⟩, hi⟩
 obtain ⟨A7, k7, rfl⟩ := own_form hC.o7
 have hX : Below w.heap.size w X := HB.out.trans (hC.kp.to_below (B := w.heap.size) (fun b hb => hb.elim (fun e => by omega) fun e => e.elim) HB.out.size)
 have c7 := cell_of_one hC.c7
 have HBX := hI hX; clear hX
 obtain ⟨er, her⟩ : ∃ er, er = shortM (lawsD xs) ss k := ⟨_, rfl⟩
 rw [← her] at hi ⊢
 have HER := hI her; clear her
 by_cases h0 : er = 0
 case neg =>
  have h1 : (er != 0) = true := by simpa using h0
  have HM : Hid (imageM (lawsD xs) ss k = (er, [])) := by show _ = _; unfold imageM; rw [← HER.out, if_pos h0]
  clear h0 hi hwd hln hC c7
  go_wp2
  exact bodyPost_ret (results_tmp2 Tryz.results46 _ _ _) rfl ⟨none, 0, 0, by rw [HM.out]; rfl, by rw [HM.out]; exact IsWords.nil _, HBX.out⟩
 have h1 : (er != 0) = false := by simpa using h0
 have HM : Hid (imageM (lawsD xs) ss k = (0, setL soonerM (ps.map Part.word))) := by
  show _ = _
  unfold imageM
  rw [← HER.out, if_neg (by simpa using h0), hwd, hi h0, List.take_length]
 have hle : ps.length ≤ 625 := by
  have hok : shortM (lawsD xs) ss k = 0 := by rw [← HER.out]; exact h0
  have := short_outs hok
  rw [hln, hi h0]; exact this
 clear h0 hi hwd hln
 by_cases hps : ps.length = 0
 ·have hp0 : ps = [] := List.eq_nil_of_length_eq_zero hps
  subst hp0
  have HM0 : Hid (imageM (lawsD xs) ss k = (0, [])) := HM
  have HCE : Hid (Cells X A7 0 k7 1 []) := Cells.of_own hC.o7 (by decide)
  clear hC hps hle
  rw [List.length_nil] at c7
  go_wp2_with fail
  refine (AnyF.slices_SortFunc_none { Tryz.sortWord with } A7 k7 _ X).mono ?_
  rintro e X2 ⟨rfl, rfl⟩
  go_wp2_with fail
  refine (compact0_c A7 k7 _ X2).mono ?_
  rintro e X3 ⟨rfl, rfl⟩
  go_wp2
  exact bodyPost_ret (results_tmp2 Tryz.results46 _ _ _) rfl ⟨A7, 0, k7, by rw [HM0.out]; rfl, by rw [HM0.out]; exact ⟨[], rfl, HCE.out, fun p hp => by simp at hp⟩, HBX.out⟩
 ·obtain ⟨g, cap, cur, hv, hgB, hg, hcp, hcm, hrow⟩ := own_cells1 hC.o7 (by omega)
  have hv1 : A7 = some ⟨g, 0, none⟩ := by injection hv
  have hv2 : k7 = cap := by injection hv
  subst hv1 hv2
  clear hv
  have hpp : ∀ p ∈ ps, IsWord X p.1 p.2.1 p.2.2.1 p.2.2.2 ∧ (0 < p.2.1 → ∀ ad, p.1 = some ad → ad.block ≠ g) := fun p hp => ⟨hC.pp p hp, fun hn ad had e => (hC.pd p hp ad had).2 hn (by rw [e]; rfl)⟩
  have HPP := hI hpp; clear hpp
  have HC := hI hC; clear hC
  have HG := hI hg; have HROW := hI hrow
  clear hg hrow
  go_wp2_with fail
  refine (sortWds_c g k7 ps X cur HG.out HROW.out HPP.out (by omega)).mono ?_
  rintro e X2 ⟨rfl, hK2, ps', cur', hpm, hpw, hg2, -, hrow2⟩
  have hlen : ps'.length = ps.length := hpm.length_eq
  have c7' : X2.cell? ⟨b7, 0, none⟩ = some (.slice (some ⟨g, 0, none⟩) ps.length k7) := cell_of_one ((hK2.block b7 (lt_of_block HC.out.c7) (by omega)).trans HC.out.c7)
  have HPP2 : Hid (∀ p ∈ ps', IsWord X2 p.1 p.2.1 p.2.2.1 p.2.2.2 ∧ (0 < p.2.1 → ∀ ad, p.1 = some ad → ad.block ≠ g)) := fun p hp => by
   have h5 := HPP.out p (hpm.mem_iff.1 hp)
   exact ⟨h5.1.keep hK2 h5.2, h5.2⟩
  have HSET : Hid (compactL (ps'.map Part.word) = setL soonerM (ps.map Part.word)) := compact_set sooner_strict hpw (fun a => (hpm.map Part.word).mem_iff)
  have HB2 : Hid (Below w.heap.size w X2) := HBX.out.trans (hK2.to_below (B := w.heap.size) (fun b hb => by have := HB.out.size; omega) HBX.out.size)
  have HG2 := hI hg2; have HROW2 := hI hrow2
  clear hpm hpw hg2 hrow2 hK2 c7
  have HLEN := hI hlen; clear hlen
  go_wp2_with fail
  have hcon := compactWds_c g k7 ps' X2 cur' HG2.out HROW2.out HPP2.out (by rw [HLEN.out]; omega) (by rw [HLEN.out]; exact hcp)
  rw [HLEN.out] at hcon
  refine hcon.mono ?_
  rintro e X3 ⟨C, rfl, hO⟩
  have HO := hI hO; clear hO hcon
  go_wp2
  refine bodyPost_ret (results_tmp2 Tryz.results46 _ _ _) rfl ⟨some ⟨g, 0, none⟩, C.length, k7, by rw [HM.out]; rfl, ?_, HB2.out.trans (HO.out.kp.to_below (B := w.heap.size) (fun b hb => by have := HB.out.size; omega) HB2.out.size)⟩
  rw [HM.out, ← HSET.out]
  obtain ⟨cur3, g3, r3⟩ := HO.out.row
  have hCl : C.length ≤ k7 := by
   have h5 := compactL_len (ps'.map Part.word)
   rw [← HO.out.wd, List.length_map, List.length_map] at h5
   have := HLEN.out
   omega
  refine ⟨C, HO.out.wd, ⟨by rw [List.length_map]; omega, hCl, hcm, (fun h => by cases h), fun _ => ⟨g, 0, rfl, lt_of_block g3, fun j v hj => ?_⟩⟩, fun p hp => ?_⟩
  ·rw [List.getElem?_map] at hj
   obtain ⟨p, hp, rfl⟩ := Option.map_eq_some_iff.1 hj
   rw [Nat.zero_add]
   exact cell_at_heap g3 (r3 j p hp)
  ·have h6 := HPP2.out p (HO.out.mem p hp)
   exact h6.1.keep HO.out.kp h6.2
def Aside (B : Nat) (v : Value) (w : World) (p : Part) : Prop := IsWord w p.1 p.2.1 p.2.2.1 p.2.2.2 ∧ ∀ ad, p.1 = some ad → B ≤ ad.block ∧ (0 < p.2.1 → ¬ v.ownBlock = some ad.block)
theorem Aside.below {B : Nat} {v : Value} {w w' : World} {p : Part} (h : Aside B v w p) (hb : Below w.heap.size w w') : Aside B v w' p := ⟨h.1.below hb rr, h.2⟩
theorem Aside.grown {B : Nat} {v v' : Value} {w X : World} {p : Part} (h : Aside B v w p) (hg : w.grownBy X v.ownBlock) (hat : v'.ownBlock = v.ownBlock ∨ v'.ownBlock = some w.heap.size) : Aside B v' X p := by
 have hlt : 0 < p.2.1 → ∀ ad, p.1 = some ad → ad.block < w.heap.size := by
  intro hn ad had
  obtain ⟨b, off, hb, hlt, _⟩ := h.1.2.2.2.2 hn
  rw [had] at hb
  injection hb with hb
  subst hb
  exact hlt
 refine ⟨h.1.keep (S := fun k => v.ownBlock = some k) ((Keep.refl (fun k => v.ownBlock = some k) w).grown hg (fun k e => .inl e)) fun hn ad had e => (h.2 ad had).2 hn e, fun ad had => ⟨(h.2 ad had).1, fun hn e => ?_⟩⟩
 rcases hat with e' | e'
 ·exact (h.2 ad had).2 hn (e' ▸ e)
 ·rw [e'] at e; injection e with e; have := hlt hn ad had; omega
structure PairR where
 p : Part
 q : Part
def PairR.cells (s : PairR) : List Value := [s.p.val, s.q.val]
theorem PairR.len (s : PairR) : s.cells.length = 2 := rfl
def PairR.data (s : PairR) : List Snd × List Snd := (s.p.word, s.q.word)
def IsPairs (w : World) (A : Option Addr) (n c : Nat) (ss : List PairR) : Prop := Recs PairR.cells 2 w A n c ss ∧ ∀ s ∈ ss, IsWord w s.p.1 s.p.2.1 s.p.2.2.1 s.p.2.2.2 ∧ IsWord w s.q.1 s.q.2.1 s.q.2.2.1 s.q.2.2.2
theorem IsPairs.below {w w' : World} {A : Option Addr} {n c : Nat} {ss : List PairR} (h : IsPairs w A n c ss) {B : Nat} (hb : Below B w w') (hB : w.heap.size ≤ B) : IsPairs w' A n c ss :=
 ⟨h.1.below hb hB, fun s hs => ⟨(h.2 s hs).1.below hb hB, (h.2 s hs).2.below hb hB⟩⟩
structure PairsOK (w : World) (B : Nat) (v : Value) (ss : List PairR) : Prop where
 own : w.ownsRow B 52 2 v ss.length (ss.flatMap PairR.cells)
 pq : ∀ s ∈ ss, Aside B v w s.p ∧ Aside B v w s.q
 sz : B ≤ w.heap.size
theorem PairsOK.below {w w' : World} {B : Nat} {v : Value} {ss : List PairR} (h : PairsOK w B v ss) (hb : Below w.heap.size w w') : PairsOK w' B v ss :=
 ⟨own_heap h.own fun k e => hb.block k (h.own.lt k e).2, fun s hs => ⟨(h.pq s hs).1.below hb, (h.pq s hs).2.below hb⟩, Nat.le_trans h.sz hb.size⟩
theorem PairsOK.nil (w : World) : PairsOK w w.heap.size (.slice none 0 0) [] := ⟨World.ownsRow_nil _ _ _ _, fun s hs => by simp at hs, rr⟩
theorem PairsOK.pairs {w : World} {B : Nat} {A : Option Addr} {n c : Nat} {ss : List PairR} (h : PairsOK w B (.slice A n c) ss) (hn : n = ss.length) : IsPairs w A n c ss := by
 subst hn
 exact ⟨Recs.of_own h.own PairR.len (by decide), fun s hs => ⟨(h.pq s hs).1.1, (h.pq s hs).2.1⟩⟩
theorem PairsOK.push {w X : World} {B : Nat} {v v' : Value} {ss : List PairR} (h : PairsOK w B v ss) {s : PairR} (hp : Aside B v w s.p) (hq : Aside B v w s.q)
  (hown : X.ownsRow B 52 2 v' (ss.length + 1) (ss.flatMap PairR.cells ++ s.cells)) (hg : w.grownBy X v.ownBlock) (hat : v'.ownBlock = v.ownBlock ∨ v'.ownBlock = some w.heap.size) : PairsOK X B v' (ss ++ [s]) := by
 refine ⟨?_, fun t ht => ?_, Nat.le_trans h.sz hg.size⟩
 ·rw [List.length_append, List.length_singleton, List.flatMap_append, List.flatMap_singleton]; exact hown
 ·rcases List.mem_append.1 ht with ht | ht
  ·exact ⟨(h.pq t ht).1.grown hg hat, (h.pq t ht).2.grown hg hat⟩
  ·obtain rfl : t = s := by simpa using ht
   exact ⟨hp.grown hg hat, hq.grown hg hat⟩
def RetPairs (w : World) (r : Int × List (List Snd × List Snd)) (e : Ending) (w' : World) : Prop :=
 ∃ A n c ss, e = .returned (.tuple #[.slice A n c, .int .i64 r.1]) ∧ ss.map PairR.data = r.2 ∧ IsPairs w' A n c ss ∧ Below w.heap.size w w'
def bytU (p : Int) (i : Nat) : UInt8 := UInt8.ofNat (p / 2 ^ (8 * i) % 256).toNat
theorem bytU_val (p : Int) (i : Nat) : ((bytU p i).toNat : Int) = p / 2 ^ (8 * i) % 256 := by
 unfold bytU
 rw [UInt8.toNat_ofNat']
 have h1 := Int.emod_nonneg (p / 2 ^ (8 * i)) (show (256 : Int) ≠ 0 by decide)
 have h2 := Int.emod_lt_of_pos (p / 2 ^ (8 * i)) (show (0 : Int) < 256 by decide)
 generalize p / 2 ^ (8 * i) % 256 = x at *
 rw [Nat.mod_eq_of_lt (by omega)]
 omega
def sndB (s : Snd) : List UInt8 := [bytU s.1 0, bytU s.2 0, bytU s.1 1, bytU s.2 1, bytU s.1 2, bytU s.2 2, bytU s.1 3, bytU s.2 3]
def textM (w : List Snd) : List UInt8 := w.flatMap sndB
theorem bytU_inj {p q : Int} (hp : U32 p) (hq : U32 q) (h0 : bytU p 0 = bytU q 0) (h1 : bytU p 1 = bytU q 1) (h2 : bytU p 2 = bytU q 2) (h3 : bytU p 3 = bytU q 3) : p = q := by
 have e : ∀ i, bytU p i = bytU q i → p / 2 ^ (8 * i) % 256 = q / 2 ^ (8 * i) % 256 := fun i h => by rw [← bytU_val, ← bytU_val, h]
 have e0 := e 0 h0
 have e1 := e 1 h1
 have e2 := e 2 h2
 have e3 := e 3 h3
 obtain ⟨a1, a2⟩ := hp
 obtain ⟨b1, b2⟩ := hq
 simp only [Nat.reduceMul, Int.reducePow] at e0 e1 e2 e3
 omega
theorem textM_inj : ∀ {v w : List Snd}, WordU v → WordU w → textM v = textM w → v = w
 | [], [], _, _, _ => rfl
 | [], y :: w, _, _, h => by simp [textM, sndB] at h
 | x :: v, [], _, _, h => by simp [textM, sndB] at h
 | x :: v, y :: w, hv, hw, h => by
  simp only [textM, List.flatMap_cons, sndB, List.cons_append, List.nil_append, List.cons.injEq] at h
  obtain ⟨p0, m0, p1, m1, p2, m2, p3, m3, hr⟩ := h
  have hx := hv x List.mem_cons_self
  have hy := hw y List.mem_cons_self
  rw [Prod.ext (bytU_inj hx.1 hy.1 p0 p1 p2 p3) (bytU_inj hx.2 hy.2 m0 m1 m2 m3), textM_inj (fun s hs => hv s (List.mem_cons_of_mem _ hs)) (fun s hs => hw s (List.mem_cons_of_mem _ hs)) hr]
theorem textM_len (w : List Snd) : (textM w).length = w.length * 8 := by
 induction w with
 | nil => rfl
 | cons x w ih => simp only [textM, List.flatMap_cons, List.length_append, List.length_cons] at ih ⊢; rw [ih]; simp [sndB]; omega
def keyM (w : List Snd) : Lit := .string (textM w)
theorem keyM_inj {v w : List Snd} (hv : WordU v) (hw : WordU w) (h : keyM v = keyM w) : v = w := textM_inj hv hw (by injection h)
def PlaceOK (D : DataW Unit) (fs : List (List Snd × List Snd)) : Prop :=
 Go.Maps.IsMap D ∧ (∀ t, WordU t → Go.Maps.has D (keyM t) = fs.any fun p => decide (p.2 = t)) ∧ ∀ (i : Nat) p, fs[i]? = some p → D.atKey (keyM p.2) (.lit (.int .i64 0)) = .lit (.int .i64 (i : Int))
theorem place_none : PlaceOK (.map []) [] := ⟨Go.Maps.isMap_empty, fun _ _ => rfl, fun i p h => by simp at h⟩
theorem place_put {D : DataW Unit} {fs : List (List Snd × List Snd)} {x : List Snd × List Snd} (h : PlaceOK D fs) (hu : ∀ p ∈ fs, WordU p.2) (hx : WordU x.2) (hn : fs.any (fun p => decide (p.2 = x.2)) = false) :
  PlaceOK (D.put (keyM x.2) (.lit (.int .i64 (fs.length : Int)))) (fs ++ [x]) := by
 obtain ⟨h1, h2, h3⟩ := h
 refine ⟨h1.put _ _, fun t ht => ?_, fun i p hp => ?_⟩
 ·rw [List.any_append]
  by_cases e : t = x.2
  ·subst e; rw [Go.Maps.has_put_same h1 (show WideAt.IsKeyLit (keyM x.2) from trivial)]; simp
  ·rw [Go.Maps.has_put_other (fun e' => e (keyM_inj ht hx e')), h2 t ht]
   have e2 : ¬ x.2 = t := fun e' => e e'.symm
   simp [e2]
 ·rcases Nat.lt_or_ge i fs.length with hi | hi
  ·rw [List.getElem?_append_left hi] at hp
   have hm := List.mem_of_getElem? hp
   have hne : p.2 ≠ x.2 := fun e => by
    have := List.any_eq_false.1 hn p hm
    simp [e] at this
   rw [Go.Maps.atKey_put_other (fun e' => hne (keyM_inj (hu p hm) hx e'))]
   exact h3 i p hp
  ·rw [List.getElem?_append_right hi] at hp
   have h0 : i - fs.length = 0 := by
    have := (List.getElem?_eq_some_iff.1 hp).1
    simp at this; omega
   rw [h0] at hp
   obtain rfl : x = p := by simpa using hp
   obtain rfl : i = fs.length := by omega
   exact Go.Maps.atKey_put_same h1 (show WideAt.IsKeyLit (keyM x.2) from trivial) _ _
theorem find_place {D : DataW Unit} {fs : List (List Snd × List Snd)} {t : List Snd} (h : PlaceOK D fs) (ht : WordU t) :
  (Go.Maps.has D (keyM t) = true ∧ ∃ (i : Nat) (p : List Snd × List Snd), fs[i]? = some p ∧ fs.find? (fun p => decide (p.2 = t)) = some p ∧ D.atKey (keyM t) (.lit (.int .i64 0)) = .lit (.int .i64 (i : Int))) ∨
   (Go.Maps.has D (keyM t) = false ∧ fs.find? (fun p => decide (p.2 = t)) = none ∧ fs.any (fun p => decide (p.2 = t)) = false) := by
 obtain ⟨h1, h2, h3⟩ := h
 rcases find_any (fs := fs) (t := t) with ⟨⟨p, e1, e2, e3⟩, e4⟩ | ⟨e1, e2⟩
 ·obtain ⟨i, hi, hip⟩ := List.getElem_of_mem e2
  have hp : fs[i]? = some p := by rw [List.getElem?_eq_getElem hi, hip]
  refine .inl ⟨by rw [h2 t ht, e4], i, p, hp, e1, ?_⟩
  rw [← e3]; exact h3 i p hp
 ·exact .inr ⟨by rw [h2 t ht, e2], e1, e2⟩
end Go.Proofs.YtlgliddhideflaaGreatDoor

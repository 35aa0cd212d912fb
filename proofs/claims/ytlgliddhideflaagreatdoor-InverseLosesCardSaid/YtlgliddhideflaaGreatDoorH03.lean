/-
  ablautlaw11: alphabet, spelt, lawful, sooner.
  ablautlaw11: lawful; spelt without sounds.
  A slice of words, as records of one cell.
  slices.IndexFunc and slices.ContainsFunc over records of type []api.Sound.
  What the functions of chapter 11 answer in its example.
  The example of chapter 11: an alphabet and two laws.
  The words that are searched, one after the other, and those of them that become a word (chapter 11), in plain words.
  A list in order with one more, by places; words that are derived one after the other (chapter 11), in plain words.
  slices.Index and slices.Contains over sounds; inverse.refused, inverse.wrong.
-/
import Derived.Test.YtlgliddhideflaaGreatDoorG74
import Derived.Test.YtlgliddhideflaaGreatDoorH02
import Derived.Test.YtlgliddhideflaaGreatDoorG37
set_option linter.all false
set_option maxRecDepth 100000
set_option maxHeartbeats 4000000
namespace Go.Proofs.YtlgliddhideflaaGreatDoor
open Go.RowKit Go.Shelf
theorem own_alpha (w : World) (n : Nat) (hn : n ≤ 5) : (w.alloc (.cells (wcells alpha5).toArray 24)).ownsRow w.heap.size 24 2 (.slice (some ⟨w.heap.size, 0, none⟩) n 5) n (wcells (alpha5.take n)) := by
 refine ⟨by rw [wcells_length, alpha5_len hn], .inr ⟨w.heap.size, 5, (wcells alpha5).toArray, rfl, rr, heap_new_at rfl, hn, by decide, rfl, ?_⟩⟩
 rw [List.toList_toArray, wcells_take]
theorem alphabet_c (n : Nat) (hn : n ≤ 5) (w : World) :
  Calls Tryz.prog 54 #[.int .i64 n] w fun e w' => e = .returned (.slice (some ⟨w.heap.size, 0, none⟩) n 5) ∧ w'.ownsRow w.heap.size 24 2 (.slice (some ⟨w.heap.size, 0, none⟩) n 5) n (wcells (alpha5.take n)) ∧ Below w.heap.size w w' := by
 have h5 : (n : Int) ≤ 5 := by omega
 have h0 : (0 : Int) ≤ (n : Int) := by omega
 have hown := own_alpha w n hn
 have HOWN := hI hown; clear hown
 go_enter Tryz.func54, Tryz.ntmps54
 go_wp2
 go_ret
 exact ⟨rfl, HOWN.out, bel⟩
theorem sooner11_c (A A' : Option Addr) (n n' c c' : Nat) (xs ys : List Snd) (w : World) (hx : IsWord w A n c xs) (hy : IsWord w A' n' c' ys) :
  Calls Tryz.prog 55 #[.slice A n c, .slice A' n' c'] w fun e w' => e = .returned (.bool (soonerM xs ys)) ∧ Below w.heap.size w w' := by
 have hm := hx.max
 have hm' := hy.max
 have HLX : Hid (xs.length = n) := hx.len
 have HLY : Hid (ys.length = n') := hy.len
 have HX := hI hx; clear hx
 have HY := hI hy; clear hy
 by_cases h1 : n < n'
 ·have h1' : (n : Int) < (n' : Int) := by omega
  have HV : Hid (soonerM xs ys = true) := by show _ = _; unfold soonerM; rw [HLX.out, HLY.out, decide_eq_true h1]; rfl
  go_enter Tryz.func55, Tryz.ntmps55
  go_wp2
  go_ret
  exact ⟨by rw [HV.out]; rfl, Below.refl _ _⟩
 ·have h1' : ¬ (n : Int) < (n' : Int) := by omega
  by_cases hn : n = n'
  ·subst hn
   have HV : Hid (soonerM xs ys = decide (ordW xs ys < 0)) := by show _ = _; rw [ordW_lt]; unfold soonerM; rw [HLX.out, HLY.out]; simp
   have h2 : ((n : Int) == (n : Int)) = true := by simp
   go_enter Tryz.func55, Tryz.ntmps55
   go_wp2_with fail
   refine (wOrd_c A n c xs A' n c' ys w HX.out HY.out).mono ?_
   obtain ⟨v, hv⟩ : ∃ v, v = ordW xs ys := ⟨_, rfl⟩
   rw [← hv] at HV ⊢
   clear hv
   rintro e w1 ⟨rfl, hG⟩
   go_wp2
   go_ret
   exact ⟨by rw [HV.out]; rfl, hG.b⟩
  ·have h2 : ((n : Int) == (n' : Int)) = false := by simp; omega
   have HV : Hid (soonerM xs ys = false) := by show _ = _; unfold soonerM; rw [HLX.out, HLY.out, decide_eq_false h1, decide_eq_false hn]; rfl
   go_enter Tryz.func55, Tryz.ntmps55
   go_wp2
   go_ret
   exact ⟨by rw [HV.out]; rfl, Below.refl _ _⟩
theorem spelt_take (ss : List Snd) (l : List Nat) (j : Nat) {k : Nat} (h : l[j]? = some k) (hs : ¬ ss = []) : speltM ss l (j + 1) = speltM ss l j ++ [ss.getD (k % ss.length) (0, 0)] := by
 unfold speltM
 rw [if_neg hs, if_neg hs, take_snoc' l j k h, List.map_append]; rfl
theorem spelt_min (ss : List Snd) (l : List Nat) (m : Nat) : speltM ss l (min l.length m) = speltM ss l m := by
 unfold speltM
 split
 ·rfl
 ·by_cases h : l.length ≤ m
  ·rw [Nat.min_eq_left h, List.take_of_length_le rr, List.take_of_length_le h]
  ·rw [Nat.min_eq_right (by omega)]
theorem spelt_c (A : Option Addr) (n c : Nat) (ss : List Snd) (Al : Option Addr) (nl cl : Nat) (l : List Nat) (mo : Nat) (w : World) (hs : IsWord w A n c ss) (hl : IsBytes w Al nl cl l) (hn0 : 0 < n) (hmo : mo ≤ 10) :
  Calls Tryz.prog 68 #[.slice A n c, .slice Al nl cl, .int .i64 mo] w (RetWord w (speltM ss l mo)) := by
 have hmx := hs.max
 have hml := hl.max
 have HLN : Hid (ss.length = n) := hs.len
 have HLL : Hid (l.length = nl) := hl.len
 have HNE : Hid (¬ ss = []) := fun e => by have h := HLN.out; rw [e] at h; simp at h; omega
 have HS := hI hs; have HL := hI hl
 clear hs hl
 go_enter Tryz.func68, Tryz.ntmps68
 by_cases hmin : nl ≤ mo
 ·have hmin1 : min (nl : Int) (mo : Int) = (nl : Int) := by omega
  have hmn : nl ≤ nl := rr
  have HFI : Hid (speltM ss l nl = speltM ss l mo) := by show _ = _; rw [← spelt_min ss l mo, HLL.out, Nat.min_eq_left hmin]
  go_wp2
  go_loopw [7, 9, 17] (fun v7 _ v17 wr => ∃ j : Nat, v17 = .int .i64 j ∧ j ≤ nl ∧ Hid (wr.ownsRow w.heap.size 24 2 v7 j (wcells (speltM ss l j))) ∧ Below w.heap.size w wr) (fun _ _ v17 _ => nl - (intOf v17).toNat)
  case atStart => exact ⟨0, rfl, Nat.zero_le _, by rw [show speltM ss l 0 = [] by unfold speltM; simp]; exact World.ownsRow_nil _ _ _ _, Below.refl _ _⟩
  case round =>
   obtain ⟨j, rfl, hj, hown, hB⟩ := hrel
   have hBs := hB.size
   by_cases hlt : j < nl
   ·have hlt' : (j : Int) < (nl : Int) := by omega
    obtain ⟨b, off, k, hA, hb, hlk, hk256, hck⟩ := (HL.out.below hB rr).at_ (k := j) (by omega)
    obtain ⟨r, hr⟩ : ∃ r, r = k % n := ⟨_, rfl⟩
    have hr0 : r < n := by rw [hr]; exact Nat.mod_lt _ hn0
    obtain ⟨b1, off1, p, m, hA1, hb1, hsk, hc0, hc1⟩ := (HS.out.below hB rr).at_ hr0
    have hmod : ((k : Int) % (n : Int)) = (r : Int) := by rw [hr]; omega
    have htm : Int.tmod (k : Int) (n : Int) = (r : Int) := by rw [Int.tmod_eq_emod_of_nonneg (by omega)]; exact hmod
    have hri : (r : Int) < (n : Int) := by omega
    have HST : Hid (speltM ss l (j + 1) = speltM ss l j ++ [(p, m)]) := by
     show _ = _
     rw [spelt_take ss l j hlk HNE.out, HLN.out, ← hr, List.getD_eq_getElem?_getD, hsk]; rfl
    clear hr
    have HOWN := hI hown.out
    clear hlk hsk hown
    subst hA hA1
    have hn4 : ¬ n = 0 := by omega
    go_wp2_with (at_builtin; go_loud (refine append_snd rfl (.tmp 24) (.tmp 33) rfl _ _ _ _ rfl (HOWN.out.alloc _) (some ⟨wr.heap.size, 0, none⟩) 1 1 [(p, m)] rfl (word_one wr p m 24) (by omega) (by simp; omega) ?h2))
    case h2 =>
     intro v9 w9 hown9 hg9 _
     have hB9 : Below w.heap.size w w9 := (hB.alloc hBs _).grown hg9 (by simp; omega) (fun q hq => (HOWN.out.lt q hq).1)
     have HOWN9 : Hid (w9.ownsRow w.heap.size 24 2 v9 (j + 1) (wcells (speltM ss l (j + 1)))) := by rw [HST.out]; exact hown9
     clear hown9 hg9 HOWN
     go_wp2
     go_roundw
     case rel => exact ⟨j + 1, by go_num, by omega, HOWN9, hB9⟩
     case measure => simp [intOf]; omega
   ·obtain rfl : j = nl := by omega
    have hfin := hown.out
    rw [HFI.out] at hfin
    have HF := hI hfin; clear hfin
    go_wp2
    go_ret
    exact RetWord.of_own rfl HF.out hB rr
 ·have hmin1 : min (nl : Int) (mo : Int) = (mo : Int) := by omega
  have hmn : mo ≤ nl := by omega
  go_wp2
  go_loopw [7, 9, 17] (fun v7 _ v17 wr => ∃ j : Nat, v17 = .int .i64 j ∧ j ≤ mo ∧ Hid (wr.ownsRow w.heap.size 24 2 v7 j (wcells (speltM ss l j))) ∧ Below w.heap.size w wr) (fun _ _ v17 _ => mo - (intOf v17).toNat)
  case atStart => exact ⟨0, rfl, Nat.zero_le _, by rw [show speltM ss l 0 = [] by unfold speltM; simp]; exact World.ownsRow_nil _ _ _ _, Below.refl _ _⟩
  case round =>
   obtain ⟨j, rfl, hj, hown, hB⟩ := hrel
   have hBs := hB.size
   by_cases hlt : j < mo
   ·have hlt' : (j : Int) < (mo : Int) := by omega
    obtain ⟨b, off, k, hA, hb, hlk, hk256, hck⟩ := (HL.out.below hB rr).at_ (k := j) (by omega)
    obtain ⟨r, hr⟩ : ∃ r, r = k % n := ⟨_, rfl⟩
    have hr0 : r < n := by rw [hr]; exact Nat.mod_lt _ hn0
    obtain ⟨b1, off1, p, m, hA1, hb1, hsk, hc0, hc1⟩ := (HS.out.below hB rr).at_ hr0
    have hmod : ((k : Int) % (n : Int)) = (r : Int) := by rw [hr]; omega
    have htm : Int.tmod (k : Int) (n : Int) = (r : Int) := by rw [Int.tmod_eq_emod_of_nonneg (by omega)]; exact hmod
    have hri : (r : Int) < (n : Int) := by omega
    have HST : Hid (speltM ss l (j + 1) = speltM ss l j ++ [(p, m)]) := by
     show _ = _
     rw [spelt_take ss l j hlk HNE.out, HLN.out, ← hr, List.getD_eq_getElem?_getD, hsk]; rfl
    clear hr
    have HOWN := hI hown.out
    clear hlk hsk hown
    subst hA hA1
    have hn4 : ¬ n = 0 := by omega
    go_wp2_with (at_builtin; go_loud (refine append_snd rfl (.tmp 24) (.tmp 33) rfl _ _ _ _ rfl (HOWN.out.alloc _) (some ⟨wr.heap.size, 0, none⟩) 1 1 [(p, m)] rfl (word_one wr p m 24) (by omega) (by simp; omega) ?h2))
    case h2 =>
     intro v9 w9 hown9 hg9 _
     have hB9 : Below w.heap.size w w9 := (hB.alloc hBs _).grown hg9 (by simp; omega) (fun q hq => (HOWN.out.lt q hq).1)
     have HOWN9 : Hid (w9.ownsRow w.heap.size 24 2 v9 (j + 1) (wcells (speltM ss l (j + 1)))) := by rw [HST.out]; exact hown9
     clear hown9 hg9 HOWN
     go_wp2
     go_roundw
     case rel => exact ⟨j + 1, by go_num, by omega, HOWN9, hB9⟩
     case measure => simp [intOf]; omega
   ·obtain rfl : j = mo := by omega
    have hfin := hown.out
    skip
    have HF := hI hfin; clear hfin
    go_wp2
    go_ret
    exact RetWord.of_own rfl HF.out hB rr
theorem spelt0_c (A : Option Addr) (c : Nat) (Al : Option Addr) (nl cl : Nat) (l : List Nat) (mo : Nat) (w : World) (hl : IsBytes w Al nl cl l) (hmo : mo ≤ 10) :
  Calls Tryz.prog 68 #[.slice A 0 c, .slice Al nl cl, .int .i64 mo] w (RetWord w []) := by
 have hml := hl.max
 have HL := hI hl
 clear hl
 go_enter Tryz.func68, Tryz.ntmps68
 by_cases hmin : nl ≤ mo
 ·have hmin1 : min (nl : Int) (mo : Int) = (nl : Int) := by omega
  go_wp2
  go_loopw [7, 9, 17] (fun v7 _ v17 wr => ∃ j : Nat, v17 = .int .i64 j ∧ j ≤ nl ∧ v7 = .slice none 0 0 ∧ Below w.heap.size w wr) (fun _ _ v17 _ => nl - (intOf v17).toNat)
  case atStart => exact ⟨0, rfl, Nat.zero_le _, rfl, Below.refl _ _⟩
  case round =>
   obtain ⟨j, rfl, hj, rfl, hB⟩ := hrel
   by_cases hlt : j < nl
   ·have hlt' : (j : Int) < (nl : Int) := by omega
    obtain ⟨b, off, k, hA, hb, hlk, hk256, hck⟩ := (HL.out.below hB rr).at_ (k := j) (by omega)
    subst hA
    go_wp2
    go_roundw
    case rel => exact ⟨j + 1, by go_num, by omega, rfl, hB⟩
    case measure => simp [intOf]; omega
   ·obtain rfl : j = nl := by omega
    go_wp2
    go_ret
    exact ⟨none, 0, 0, rfl, Cells.nil _ _, hB, fun ad had => (by cases had)⟩
 ·have hmin1 : min (nl : Int) (mo : Int) = (mo : Int) := by omega
  go_wp2
  go_loopw [7, 9, 17] (fun v7 _ v17 wr => ∃ j : Nat, v17 = .int .i64 j ∧ j ≤ mo ∧ v7 = .slice none 0 0 ∧ Below w.heap.size w wr) (fun _ _ v17 _ => mo - (intOf v17).toNat)
  case atStart => exact ⟨0, rfl, Nat.zero_le _, rfl, Below.refl _ _⟩
  case round =>
   obtain ⟨j, rfl, hj, rfl, hB⟩ := hrel
   by_cases hlt : j < mo
   ·have hlt' : (j : Int) < (mo : Int) := by omega
    obtain ⟨b, off, k, hA, hb, hlk, hk256, hck⟩ := (HL.out.below hB rr).at_ (k := j) (by omega)
    subst hA
    go_wp2
    go_roundw
    case rel => exact ⟨j + 1, by go_num, by omega, rfl, hB⟩
    case measure => simp [intOf]; omega
   ·obtain rfl : j = mo := by omega
    go_wp2
    go_ret
    exact ⟨none, 0, 0, rfl, Cells.nil _ _, hB, fun ad had => (by cases had)⟩
theorem lawsE_one (l : LawD) : (lawsE [l] = 0 ↔ lawE l = 0) := by
 unfold lawsE
 rw [if_neg (by simp)]
 by_cases h : lawE l = 0
 ·simp [h]
 ·have h2 : ([l].any fun x => lawE x != 0) = true := by simp [h]
  first | (rw [if_pos h2]; simp [h]) | (simp [h])
theorem lawsE_all0 {ls : List LawD} (hl : ls.length ≤ 64) (h : ∀ l ∈ ls, lawE l = 0) : lawsE ls = 0 := by
 unfold lawsE
 rw [if_neg (by omega), if_neg]
 intro hc
 obtain ⟨l, hl, hb⟩ := List.any_eq_true.1 hc
 simp [h l hl] at hb
theorem lawful_c (A : Option Addr) (n c : Nat) (xs : List LawR) (mo : Nat) (w : World) (hx : IsLaws w A n c xs) (hmo : mo ≤ 64) :
  Calls Tryz.prog 53 #[.slice A n c, .int .i64 mo] w fun e w' => ∃ A' n' c' ys, e = .returned (.slice A' n' c') ∧ IsLaws w' A' n' c' ys ∧ lawsE (lawsD ys) = 0 ∧ n' ≤ mo ∧ Below w.heap.size w w' := by
 have hm := hx.max
 have HX := hI hx; clear hx
 go_enter Tryz.func53, Tryz.ntmps53
 go_wp2_with fail
 refine (light11_c A n c xs w HX.out).mono ?_
 rintro e w1 ⟨b, rfl, hlt, hB1⟩
 have HLT := hI hlt; clear hlt
 cases b with
 | false =>
  go_wp2
  go_ret
  exact ⟨none, 0, 0, [], rfl, ⟨⟨Cells.nil _ _, rfl⟩, fun x hx => by simp at hx⟩, rfl, Nat.zero_le _, hB1⟩
 | true =>
  have hn70 := HLT.out rfl
  have HB1 := hI hB1
  have hB1s := hB1.size
  clear hB1
  go_wp2
  go_loopw [5, 13] (fun v5 v13 wr => ∃ (j m : Nat) (ys : List LawR), v13 = .int .i64 j ∧ j ≤ n ∧ ys.length = m ∧ m ≤ mo ∧ Hid (wr.ownsRow w1.heap.size 34 18 v5 m (ys.flatMap LawR.cells)) ∧ Hid (∀ y ∈ ys, LawAt wr y.l y.a) ∧ Hid (∀ y ∈ ys, LawAt w1 y.l y.a) ∧ Hid (∀ y ∈ ys, lawE y.l = 0) ∧ Below w1.heap.size w1 wr) (fun _ v13 _ => n - (intOf v13).toNat)
  case atStart => exact ⟨0, 0, [], rfl, Nat.zero_le _, rfl, Nat.zero_le _, World.ownsRow_nil _ _ _ _, (fun y hy => by simp at hy), (fun y hy => by simp at hy), (fun y hy => by simp at hy), Below.refl _ _⟩
  case round =>
   obtain ⟨j, m, ys, rfl, hj, hym, hmm, hown, hat, hat1, hys, hB⟩ := hrel
   have hBs := hB.size
   obtain ⟨A5, c5, rfl⟩ := own_form hown.out
   have hmc : m ≤ c5 ∧ c5 ≤ 9223372036854775807 := by have h := Cells.of_own hown.out (by decide); have h1 := h.2.1; have h2 := h.2.2.1; unfold maxLen at h2; omega
   have HBW : Hid (Below w.heap.size w wr) := HB1.out.trans (hB.mono hB1s)
   by_cases hlt : (j : Int) < (n : Int)
   ·have hjn : j < n := by omega
    obtain ⟨s, hs⟩ := HX.out.get hjn
    obtain ⟨b, off, rfl, hbl, hrg⟩ := (HX.out.below HBW.out rr).at_ hs
    have hla0 := (HX.out.below HB1.out rr).2 s (List.mem_of_getElem? hs)
    have HLA0 := hI hla0; clear hla0 hs
    have HRG := hI hrg; clear hrg
    go_wp2_with (first | (refine load_lawM rfl (.tmp 15) rfl b (off + j * 18) s rfl HRG.out ?_) | (refine store_law rfl (.tmp 7) (.tmp 16) rfl wr.heap.size s.l s.a rfl rfl (t := 34) (heap_new_at rfl) rfl ?hs))
    case hs =>
     intro W g1 g2 g3
     have hbW : Below wr.heap.size wr W := ((Below.refl wr.heap.size wr).alloc rr _).trans (g2.to_below (fun k hk => by omega) (by simp))
     obtain ⟨bl, hbl2⟩ : ∃ bl, bl = wr.heap.size := ⟨_, rfl⟩
     have hblw : w1.heap.size ≤ bl := by omega
     rw [← hbl2] at g1 ⊢
     clear hbl2 g2 g3
     have hBW := hB.trans (hbW.mono hBs)
     have HOWN2 := hI (own_keep hown.out hbW rr)
     have HLA := hI (HLA0.out.below hBW rr)
     have HG := hI g1
     have HBW2 := hI hBW
     clear g1 hbW hown hBW hB hat
     go_wp2_with (first | (refine load_law rfl (.tmp 7) rfl bl s.l s.a rfl HG.out ?_) | (refine law1A rfl (.tmp 17) rfl s rfl HLA.out ?h1))
     case h1 =>
      intro X hl2 hb hzz hox
      have hbx : Below W.heap.size W X := hb
      have HG2 := hI ((hb.block _ (lt_of_block HG.out)).trans HG.out)
      have HB3 : Hid (Below w1.heap.size w1 X) := HBW2.out.trans (hb.mono HBW2.out.size)
      have HOWN3 := hI (own_keep HOWN2.out hb rr)
      have HL2 := hI hl2
      clear hl2 hb hzz hox hbx HG HBW2 HOWN2 HLA
      go_wp2_with fail
      refine (dCheck_c _ 1 1 [s] X HL2.out).mono ?_
      rintro e w4 ⟨rfl, hb4⟩
      have HG4 := hI ((hb4.block _ (lt_of_block HG2.out)).trans HG2.out)
      have HB4 : Hid (Below w1.heap.size w1 w4) := HB3.out.trans (hb4.mono HB3.out.size)
      have HOWN4 := hI (own_keep HOWN3.out hb4 rr)
      have HLA4 := hI (HLA0.out.below HB4.out rr)
      clear hb4 HG2 HB3 HOWN3 HL2
      obtain ⟨er, her⟩ : ∃ er, er = lawsE (lawsD [s]) := ⟨_, rfl⟩
      rw [← her]
      have HE : Hid (er = 0 → lawE s.l = 0) := fun h => (lawsE_one s.l).1 (by rw [h] at her; exact her.symm)
      clear her
      have HAT4 : Hid (∀ y ∈ ys, LawAt w4 y.l y.a) := fun y hy => (hat1.out y hy).below HB4.out rr
      by_cases h0 : er = 0
      ·have h0' : (er == 0) = true := by simpa using h0
       have HE0 := hI (HE.out h0)
       clear h0 HE
       by_cases hmo2 : m < mo
       ·have hmo3 : (m : Int) < (mo : Int) := by omega
        go_wp2_with (first | (refine load_law rfl (.tmp 7) rfl bl s.l s.a rfl HG4.out ?_) | (refine law1A rfl (.tmp 28) rfl s rfl HLA4.out ?h2))
        case h2 =>
         intro X5 hl5 hb5 hz5 ho5
         have HOWN5 := hI (own_keep HOWN4.out hb5 rr)
         have HB5 : Hid (Below w1.heap.size w1 X5) := HB4.out.trans (hb5.mono HB4.out.size)
         have HL5 := hI hl5.1
         clear hl5 hb5 hz5 ho5 HOWN4 HB4 HG4
         go_wp2_with (at_builtin; go_loud (refine append_laws rfl (.tmp 27) (.tmp 29) rfl _ _ _ ys rfl HOWN5.out _ 1 1 [s] rfl HL5.out (by omega) (by have := HB5.out.size; omega) ?h3))
         case h3 =>
          intro v9 w9 hown9 hg9 _
          have hB9 : Below w1.heap.size w1 w9 := HB5.out.grown hg9 HB5.out.size (fun q hq => (HOWN5.out.lt q hq).1)
          have HOWN9 : Hid (w9.ownsRow w1.heap.size 34 18 v9 (m + 1) ((ys ++ [s]).flatMap LawR.cells)) := by
           show World.ownsRow _ _ _ _ _ _ _
           rw [List.flatMap_append]; simpa using hown9
          have HAT9 : Hid (∀ y ∈ ys ++ [s], LawAt w1 y.l y.a) := fun y hy => by
           rcases List.mem_append.1 hy with hy | hy
           ·exact hat1.out y hy
           ·rw [List.mem_singleton.1 hy]; exact HLA0.out
          have HAT9' : Hid (∀ y ∈ ys ++ [s], LawAt w9 y.l y.a) := fun y hy => (HAT9.out y hy).below hB9 rr
          have HYS : Hid (∀ y ∈ ys ++ [s], lawE y.l = 0) := fun y hy => by
           rcases List.mem_append.1 hy with hy | hy
           ·exact hys.out y hy
           ·rw [List.mem_singleton.1 hy]; exact HE0.out
          clear hown9 hg9
          go_wp2
          go_roundw
          case rel => exact ⟨j + 1, m + 1, ys ++ [s], by go_num, by omega, by simp; omega, by omega, HOWN9, HAT9', HAT9, HYS, hB9⟩
          case measure => simp [intOf]; omega
       ·have hmo3 : ¬ (m : Int) < (mo : Int) := by omega
        go_wp2
        go_roundw
        case rel => exact ⟨j + 1, m, ys, by go_num, by omega, hym, hmm, HOWN4, HAT4, hat1, hys, HB4.out⟩
        case measure => simp [intOf]; omega
      ·have h0' : (er == 0) = false := by simpa using h0
       clear h0 HE
       go_wp2
       go_roundw
       case rel => exact ⟨j + 1, m, ys, by go_num, by omega, hym, hmm, HOWN4, HAT4, hat1, hys, HB4.out⟩
       case measure => simp [intOf]; omega
   ·have HFIN : Hid (lawsE (lawsD ys) = 0) := lawsE_all0 (by unfold lawsD; rw [List.length_map]; omega) (fun l hl => by obtain ⟨y, hy, rfl⟩ := List.mem_map.1 hl; exact hys.out y hy)
    go_wp2
    go_ret
    first | exact ⟨A5, m, c5, rfl, ys, ⟨Recs.of_own hown.out LawR.len (by decide), hat.out⟩, HFIN.out, hmm, HBW.out⟩ | exact ⟨A5, m, c5, ys, rfl, ⟨Recs.of_own hown.out LawR.len (by decide), hat.out⟩, HFIN.out, hmm, HBW.out⟩
def partCells (p : Part) : List Value := [p.val]
theorem part_len (p : Part) : (partCells p).length = 1 := rfl
theorem part_flat : ∀ ps : List Part, ps.flatMap partCells = ps.map Part.val
 | [] => rfl
 | p :: r => by rw [List.flatMap_cons, part_flat r]; rfl
theorem Cells.recs {w : World} {A : Option Addr} {n c : Nat} {ps : List Part} (h : Cells w A n c 1 (ps.map Part.val)) : Recs partCells 1 w A n c ps :=
 ⟨by rw [part_flat]; exact h, by have := h.1; simpa using this⟩
theorem idxWd_c (A : Option Addr) (n c : Nat) (xs : List Part) (F : Nat) (lb : Array Value) (p : Part → Bool) (w : World) (hx : Recs partCells 1 w A n c xs) (hE : Enters Tryz.prog F)
  (hcall : ∀ W, Below w.heap.size w W → ∀ s ∈ xs, Calls Tryz.prog F (#[Part.val s] ++ lb) W fun e W' => e = .returned (.bool (p s)) ∧ Below W.heap.size W W') :
  Calls Tryz.prog 130 #[.slice A n c, .func (.func F) #[] lb] w fun e w' => e = .returned (.int .i64 (idxM p xs)) ∧ Below w.heap.size w w' := by
 have hm : n ≤ 9223372036854775807 := by have h1 := hx.1.2.1; have h2 := hx.1.2.2.1; unfold maxLen at h2; omega
 have HX := hI hx; clear hx
 have HC := hI hcall; clear hcall
 unfold Enters at hE
 go_enter Tryz.func130, Tryz.ntmps130
 go_wp2
 go_loopw [5, 8] (fun _ i wr => ∃ k : Nat, k ≤ n ∧ i = .int .i64 k ∧ Hid ((xs.take k).any p = false) ∧ Below w.heap.size w wr) (fun _ i _ => n - (intOf i).toNat)
 case atStart => exact ⟨0, Nat.zero_le _, rfl, by simp [Hid], Below.refl _ _⟩
 case round =>
  obtain ⟨k, hk, rfl, HA, hB⟩ := hrel
  by_cases hlt : k < n
  ·obtain ⟨s, hxk⟩ : ∃ s, xs[k]? = some s := ⟨xs[k]'(by rw [HX.out.2]; exact hlt), List.getElem?_eq_getElem _⟩
   obtain ⟨b, off, rfl, hb, hcs⟩ := (HX.out.below hB rr).at_ part_len (by decide) hxk
   have hc0 := hcs 0 _ rfl
   simp only [Nat.add_zero, ← Nat.add_assoc, Nat.mul_one] at hc0
   clear hcs
   have HCALL := hI (HC.out wr hB s (List.mem_of_getElem? hxk))
   have HK := hI hxk; clear hxk
   by_cases hp : p s = true
   ·have hr := idxM_some p xs k s HK.out HA.out hp
    have HR := hI hr; clear hr
    have HP := hI hp; clear hp
    go_wp2_with fail
    refine HCALL.out.mono ?_
    rintro e w1 ⟨rfl, hb1⟩
    rw [HP.out]
    have hB1 := hB.trans (hb1.mono hB.size)
    clear hb1
    go_wp2
    go_ret
    exact ⟨by rw [HR.out]; rfl, hB1⟩
   ·have hp' : p s = false := by simpa using hp
    have HP := hI hp'; clear hp hp'
    go_wp2_with fail
    refine HCALL.out.mono ?_
    rintro e w1 ⟨rfl, hb1⟩
    rw [HP.out]
    have hB1 := hB.trans (hb1.mono hB.size)
    clear hb1
    go_wp2
    go_roundw
    case rel => exact ⟨k + 1, by omega, by go_num, by rw [take_snoc' xs k _ HK.out, List.any_append, HA.out]; simp [HP.out, Hid], hB1⟩
    case measure => simp [intOf]; omega
  ·obtain rfl : k = n := by omega
   have hr : idxM p xs = -1 := by
    have := HA.out
    rw [List.take_of_length_le (by rw [HX.out.2]; exact rr)] at this
    exact idxM_none p xs this
   have HR := hI hr; clear hr
   go_wp2
   go_ret
   exact ⟨by rw [HR.out]; rfl, hB⟩
theorem anyWd_c (A : Option Addr) (n c : Nat) (xs : List Part) (F : Nat) (lb : Array Value) (p : Part → Bool) (w : World) (hx : Recs partCells 1 w A n c xs) (hE : Enters Tryz.prog F)
  (hcall : ∀ W, Below w.heap.size w W → ∀ s ∈ xs, Calls Tryz.prog F (#[Part.val s] ++ lb) W fun e W' => e = .returned (.bool (p s)) ∧ Below W.heap.size W W') :
  Calls Tryz.prog 56 #[.slice A n c, .func (.func F) #[] lb] w fun e w' => e = .returned (.bool (xs.any p)) ∧ Below w.heap.size w w' := by
 have hcon := idxWd_c A n c xs F lb p w hx hE hcall
 have H := hI (idxM_any p xs)
 clear hx hcall hE
 go_enter Tryz.func56, Tryz.ntmps56
 go_wp2_with (go_at_call 130; refine hcon.mono ?_; rintro e w1 ⟨rfl, hb1⟩)
 go_ret
 refine ⟨?_, hb1⟩
 show Ending.returned (.bool (decide (0 ≤ idxM p xs))) = _
 rw [H.out]
theorem ex11_back : backM [vD] [sA, sB, sA] [sP, sB, sA] 9 = (0, [[sA, sP, sA], [sA, sB, sA]]) := by decide +kernel
theorem ex11_image : imageM [vD, fD] [sP, sB, sA] 1 = (0, [[], [sP], [sB]]) := by decide +kernel
theorem ex11_lost : lostM [vD] [sP, sB, sA] 3 = (0, [([sA, sP, sA], [sA, sB, sA])]) := by decide +kernel
theorem ex11_fixed : fixedM fD [sP, sB, sA] 2 = (0, 6) := by decide +kernel
theorem upon_store_law {o : Oper} {a : Act} {K : Act → World → Prop} {Q : Exit → Act → World → Prop} (w : World) (x y : Operand) (ho : o.op = .store 34 x y)
  (b : Nat) (l : LawD) (la : LawA) (hx : a.eval x = .pointer (some ⟨b, 0, none⟩)) (hy : a.eval y = lawV l la) {old : Array Value} {t : TypeId} (hr : w.heap[b]? = some (.cells old t (0, 0))) (hs : old.size = 18)
  (h : ∀ W, W.heap[b]? = some (.cells (lawCs l la) t (0, 0)) → Keep (fun k => k = b) w W → W.heap.size = w.heap.size → K (a.put o.dst undef) W) : o.wp Tryz.prog a w K Q := by
 have h' := h (w.setRow b (lawCs l la)) (setRow_heap w b old _ t _ hr) ⟨rfl, rfl, rfl, by simp [World.setRow], fun k _ hk => setRow_other w b k _ hk⟩ (by simp [World.setRow])
 unfold Oper.wp execOp
 simp only [ho, hx, hy, Instr.storeAt, Instr.sureAddr, Sem.run_bind, Sem.run_pure, Result.andThen_ok, run_storeVar_row w b t 34 old (lawCs l la) hr (law_size l la) (by rw [lawCs_size]; exact hs) (law_one l la)]
 exact h'
theorem results_tmp_laws {fn : Func} {s p q : Tmp} (h : fn.results = #[.tmp s, .cell p 34, .cell q 34]) (tmps : Array Value) (w : World) (v : Value) (b1 b2 : Nat) (l1 l2 : LawD) (a1 a2 : LawA) {t : TypeId} {fr : Nat × Nat} (hv : tmps.getD s undef = v)
  (hp : tmps.getD p undef = .pointer (some ⟨b1, 0, none⟩)) (hq : tmps.getD q undef = .pointer (some ⟨b2, 0, none⟩)) (h1 : w.heap[b1]? = some (.cells (lawCs l1 a1) t fr)) (h2 : w.heap[b2]? = some (.cells (lawCs l2 a2) t fr)) :
  (results fn tmps).run Tryz.prog w = .ok (.tuple #[v, lawV l1 a1, lawV l2 a2]) w := by
 have hv' : tmps[s]?.getD undef = v := by simpa using hv
 have hp' : tmps[p]?.getD undef = .pointer (some ⟨b1, 0, none⟩) := by simpa using hp
 have hq' : tmps[q]?.getD undef = .pointer (some ⟨b2, 0, none⟩) := by simpa using hq
 have hl := run_load_law h1
 have hl2 := run_load_law h2
 simp [results, h, hv', hp', hq', asAddr, hl, hl2]
theorem exm11_c (w : World) : Calls Tryz.prog 73 #[] w fun e w' => ∃ (A : Option Addr) (c : Nat) (av af : LawA), e = .returned (.tuple #[.slice A 3 c, lawV vD av, lawV fD af]) ∧ IsWord w' A 3 c [sP, sB, sA] ∧ LawAt w' vD av ∧ LawAt w' fD af ∧ Below w.heap.size w w' := by
 go_enter Tryz.func73, Tryz.ntmps73
 obtain ⟨av, hav⟩ : ∃ a : LawA, a = { Al := none, cl := 0, Ar := none, cr := 0, Ai := some ⟨w.heap.size + 1 + 1 + 1, 0, none⟩, ci := 1, Ao := some ⟨w.heap.size + 1 + 1 + 1 + 1, 0, none⟩, co := 1 } := ⟨_, rfl⟩
 go_wp2_with (refine store_law rfl (.tmp 4) (.tmp 15) rfl (w.heap.size + 1 + 1 + 1 + 1 + 1) vD av rfl (by rw [hav]; rfl) (t := 34) (by repeat (first | exact heap_new_at sd | rw [heap_old_at sd])) rfl ?_; intro W1 g1 g2 g3)
 obtain ⟨af, haf⟩ : ∃ a : LawA, a = { Al := none, cl := 0, Ar := none, cr := 0, Ai := some ⟨w.heap.size + 1 + 1 + 1 + 1 + 1 + 1, 0, none⟩, ci := 1, Ao := none, co := 0 } := ⟨_, rfl⟩
 have hW1 : W1.heap.size = w.heap.size + 6 := by rw [g3]; simp
 have q0 : ∃ old : Array Value, W1.heap[w.heap.size]? = some (.cells old 34 (0, 0)) ∧ old.size = 18 := ⟨_, (g2.block _ sd (by omega)).trans (by repeat (first | exact heap_new_at sd | rw [heap_old_at sd])), rfl⟩
 have q1 : ∃ old : Array Value, W1.heap[w.heap.size + 1]? = some (.cells old 34 (0, 0)) ∧ old.size = 18 := ⟨_, (g2.block _ sd (by omega)).trans (by repeat (first | exact heap_new_at sd | rw [heap_old_at sd])), rfl⟩
 have q3 : W1.heap[w.heap.size + 1 + 1 + 1]? = some (.cells #[.int .u32 2, .int .u32 0] 24 (0, 0)) := (g2.block _ sd (by omega)).trans (by repeat (first | exact heap_new_at sd | rw [heap_old_at sd]))
 have q4 : W1.heap[w.heap.size + 1 + 1 + 1 + 1]? = some (.cells #[.int .i64 0, .int .u32 0, .int .u32 1, .int .u32 0, .int .u32 0, .int .i64 0] 30 (0, 0)) := (g2.block _ sd (by omega)).trans (by repeat (first | exact heap_new_at sd | rw [heap_old_at sd]))
 have hB1 : Below w.heap.size w W1 := Below.trans bel (g2.to_below (B := w.heap.size) (fun k hk => by omega) (by simp; omega))
 clear g2 g3
 generalize hW5 : (W1.alloc (.cells #[.int .u32 4, .int .u32 0] 24)).alloc (.cells #[.string ⟨#[70]⟩, .int .i64 0, .int .u32 0, .int .u32 0, .bool false, .int .i64 0, .int .i64 0, .slice none 0 0, .int .i64 6, .int .u32 0, .int .u32 0, .bool false, .int .i64 0, .int .i64 0, .slice none 0 0, .slice (some ⟨w.heap.size + 1 + 1 + 1 + 1 + 1 + 1, 0, none⟩) 1 1, .slice none 0 0, .int .i64 1] 34) = W5
 have hz5 : W5.heap.size = w.heap.size + 8 := by rw [← hW5]; simp; omega
 have o5 : ∀ k, k < w.heap.size + 6 → W5.heap[k]? = W1.heap[k]? := fun k hk => by rw [← hW5]; exact (heap_old_at (by simp; omega)).trans (heap_old_at (by omega))
 have k4 : W5.heap[w.heap.size + 1 + 1 + 1 + 1 + 1]? = some (.cells (lawCs vD av) 34 (0, 0)) := (o5 _ (by omega)).trans g1
 have k6 : W5.heap[w.heap.size + 1 + 1 + 1 + 1 + 1 + 1]? = some (.cells #[.int .u32 4, .int .u32 0] 24 (0, 0)) := by rw [← hW5]; exact (heap_old_at (by simp; omega)).trans (heap_new_at (by omega))
 have k7 : W5.heap[w.heap.size + 1 + 1 + 1 + 1 + 1 + 1 + 1]? = some (.cells (lawCs fD af) 34 (0, 0)) := by rw [← hW5, haf]; exact heap_new_at (by simp; omega)
 obtain ⟨ol0, q0, z0⟩ := q0
 obtain ⟨ol1, q1, z1⟩ := q1
 have k0 := (o5 _ (by omega)).trans q0
 have k1 := (o5 _ (by omega)).trans q1
 have k3 := (o5 _ (by omega)).trans q3
 have k44 := (o5 _ (by omega)).trans q4
 have hB5 : Below w.heap.size w W5 := ⟨by rw [← hW5]; exact hB1.os, by rw [← hW5]; exact hB1.tape, by rw [← hW5]; exact hB1.output, by omega, fun k hk => (o5 k (by omega)).trans (hB1.block k hk)⟩
 have HAV := hI hav; have HAF := hI haf; have HZ5 := hI hz5
 have hz5a : w.heap.size + 8 ≤ W5.heap.size := by omega
 have K0 := hI k0; have K1 := hI k1; have K3 := hI k3; have K44 := hI k44; have K6 := hI k6; have K4 := hI k4; have K7 := hI k7; have HB5 := hI hB5
 have Z0 := hI z0; have Z1 := hI z1
 clear hW5 g1 q0 q1 q3 q4 o5 hB1 hW1 hav haf hz5 k0 k1 k3 k44 k6 hB5 z0 z1
 refine plain_region (fun W' => W'.heap[w.heap.size + 1 + 1 + 1 + 1 + 1]? = some (.cells (lawCs vD av) 34 (0, 0)) ∧ W'.heap[w.heap.size + 1 + 1 + 1 + 1 + 1 + 1 + 1]? = some (.cells (lawCs fD af) 34 (0, 0))) (by kernel_rfl) ⟨k4, k7⟩ (fun hHeld => ?_)
 clear k4 k7
 (refine' anyT_tk 0 rfl ?_; (try simp only [Act.put, nY, nX])); (refine' anyT_tk 1 rfl ?_; (try simp only [Act.put, nY, nX])); (refine' anyT_tk 2 rfl ?_; (try simp only [Act.put, nY, nX]))
 (refine' anyT_take (i := 4) (v := lawV vD av) rfl (by kernel_rfl) (by kernel_rfl) (by kernel_rfl) (by kernel_rfl) (fun _ _ _ h => h) (yields_law (by rfl) (.tmp 4) rfl (w.heap.size + 1 + 1 + 1 + 1 + 1) vD av (by rfl) (fun w' hSw => hSw.1)) (by assumption) ?_; (try simp only [Act.put, nY, nX]))
 (refine' anyT_take (i := 5) (v := lawV fD af) rfl (by kernel_rfl) (by kernel_rfl) (by kernel_rfl) (by kernel_rfl) (fun _ _ _ h => h) (yields_law (by rfl) (.tmp 5) rfl (w.heap.size + 1 + 1 + 1 + 1 + 1 + 1 + 1) fD af (by rfl) (fun w' hSw => hSw.2)) (by assumption) ?_; (try simp only [Act.put, nY, nX]))
 (refine anyT_sp 3 rfl (fun K' hK' => ?_); simp only [nY]; go_simp)
 have hwd : IsWord ((W5.alloc (.cells #[.int .u32 2, .int .u32 5, .int .u32 3, .int .u32 4, .int .u32 5, .int .u32 2] 24)).drew) (some ⟨W5.heap.size, 0, none⟩) 3 3 [sP, sB, sA] := built_word W5 [sP, sB, sA] 24 (by simp)
 have hba : Below W5.heap.size W5 ((W5.alloc (.cells #[.int .u32 2, .int .u32 5, .int .u32 3, .int .u32 4, .int .u32 5, .int .u32 2] 24)).drew) := ((Below.refl _ W5).alloc rr _).drew
 have hHeld2 : ((W5.alloc (.cells #[.int .u32 2, .int .u32 5, .int .u32 3, .int .u32 4, .int .u32 5, .int .u32 2] 24)).drew).heap[w.heap.size + 1 + 1 + 1 + 1 + 1]? = some (.cells (lawCs vD av) 34 (0, 0)) ∧ ((W5.alloc (.cells #[.int .u32 2, .int .u32 5, .int .u32 3, .int .u32 4, .int .u32 5, .int .u32 2] 24)).drew).heap[w.heap.size + 1 + 1 + 1 + 1 + 1 + 1 + 1]? = some (.cells (lawCs fD af) 34 (0, 0)) :=
  ⟨(hba.block _ (by omega)).trans K4.out, (hba.block _ (by omega)).trans K7.out⟩
 refine hK' _ _ ⟨.inr hHeld2, fun _ => ?_⟩
 clear hK' K' hHeld
 (try simp only [Act.put, nY, nX])
 generalize (W5.alloc (.cells #[.int .u32 2, .int .u32 5, .int .u32 3, .int .u32 4, .int .u32 5, .int .u32 2] 24)).drew = W6 at *
 have k0 := (hba.block _ (by omega)).trans K0.out
 have k1 := (hba.block _ (by omega)).trans K1.out
 have k3 := (hba.block _ (by omega)).trans K3.out
 have k44 := (hba.block _ (by omega)).trans K44.out
 have k6 := (hba.block _ (by omega)).trans K6.out
 have hz6 := hba.size
 have hB6 : Below w.heap.size w W6 := HB5.out.trans (hba.mono (by omega))
 have HWD := hI hwd; clear hwd hba
 (refine anyT_sp 6 rfl (fun K' hK' => ?_); simp only [nY]; go_simp)
 refine hK' _ _ ⟨.inr hHeld2, fun _ => ?_⟩
 clear hK' K'
 (try simp only [Act.put, nY, nX])
 refine anyT_sp 7 rfl (fun K' hK' => ?_)
 rw [if_pos (by rfl)]
 refine upon_store_law _ (.tmp 1) (.tmp 24) rfl w.heap.size vD av (by rfl) (by rfl) k0 Z0.out ?_
 intro X1 x1 x2 x3
 have y1 : ∀ k, k ≠ w.heap.size → k < w.heap.size + 8 → X1.heap[k]? = W6.heap[k]? := fun k hk hl => x2.block k (by omega) hk
 have hHeld3 : X1.heap[w.heap.size + 1 + 1 + 1 + 1 + 1]? = some (.cells (lawCs vD av) 34 (0, 0)) ∧ X1.heap[w.heap.size + 1 + 1 + 1 + 1 + 1 + 1 + 1]? = some (.cells (lawCs fD af) 34 (0, 0)) := ⟨(y1 _ (by omega) (by omega)).trans hHeld2.1, (y1 _ (by omega) (by omega)).trans hHeld2.2⟩
 refine hK' _ _ ⟨.inr hHeld3, fun _ => ?_⟩
 clear hK' K' hHeld2
 (try simp only [Act.put, nY, nX])
 refine anyT_sp 8 rfl (fun K' hK' => ?_)
 rw [if_pos (by rfl)]
 refine upon_store_law _ (.tmp 2) (.tmp 25) rfl (w.heap.size + 1) fD af (by rfl) (by rfl) ((y1 _ (by omega) (by omega)).trans k1) Z1.out ?_
 intro X2 x4 x5 x6
 refine hK' _ _ ⟨.inl (by kernel_rfl), fun _ => anyT_done (by kernel_rfl) ?_ _⟩
 clear hK' K' hHeld3
 (try simp only [Act.put, nY, nX])
 have y2 : ∀ k, k ≠ w.heap.size → k ≠ w.heap.size + 1 → k < w.heap.size + 8 → X2.heap[k]? = W6.heap[k]? := fun k hk hk1 hl => (x5.block k (by omega) hk1).trans (y1 k hk hl)
 have r0 := (x5.block w.heap.size (by omega) (by omega)).trans x1
 have r3 := (y2 _ (by omega) (by omega) (by omega)).trans k3
 have r44 := (y2 _ (by omega) (by omega) (by omega)).trans k44
 have r6 := (y2 _ (by omega) (by omega) (by omega)).trans k6
 have hkk : Keep (fun k => k = w.heap.size ∨ k = w.heap.size + 1) W6 X2 := (x2.mono fun k e => .inl e).trans (x5.mono fun k e => .inr e)
 have R0 := hI r0; have R1 := hI x4; have R3 := hI r3; have R44 := hI r44; have R6 := hI r6
 have HW2 : Hid (IsWord X2 (some ⟨W5.heap.size, 0, none⟩) 3 3 [sP, sB, sA]) := HWD.out.keep hkk fun _ ad had e => by injection had with had; subst had; simp at e; omega
 have HBX : Hid (Below w.heap.size w X2) := hB6.trans (hkk.to_below (B := w.heap.size) (fun k hk => by rcases hk with rfl | rfl <;> omega) hB6.size)
 clear k0 k1 k3 k44 k6 x1 x2 x3 x4 x5 x6 y1 y2 r0 r3 r44 r6 hkk hB6
 go_wp2
 refine bodyPost_ret (results_tmp_laws Tryz.results73 _ _ _ w.heap.size (w.heap.size + 1) vD fD av af rfl rfl rfl R0.out R1.out) rfl ⟨_, 3, av, af, rfl, HW2.out, ?_, ?_, HBX.out⟩
 ·rw [HAV.out]
  refine ⟨FSl_nil _, FSl_nil _, one_word (s := (2, 0)) R3.out, ⟨⟨rfl, rr, (by decide : 1 ≤ maxLen), (fun h => by cases h), fun _ => ⟨w.heap.size + 1 + 1 + 1 + 1, 0, rfl, lt_of_block R44.out, fun j v hv => ?_⟩⟩, rfl⟩, by decide⟩
  rw [Nat.zero_add]
  refine cell_at_heap R44.out ?_
  have hv' : [Value.int .i64 0, .int .u32 0, .int .u32 1, .int .u32 0, .int .u32 0, .int .i64 0][j]? = some v := hv
  simpa using hv'
 ·rw [HAF.out]
  exact ⟨FSl_nil _, FSl_nil _, one_word (s := (4, 0)) R6.out, ⟨Cells.nil _ _, rfl⟩, by decide⟩
def preM (ls : List LawD) (w ss : List Snd) (n i : Nat) : List (List Snd) :=
 ((List.range n).flatMap (wordsM (alphaM ss)) ++ (wordsM (alphaM ss) n).take i).filter fun v => decide (deriveM ls v = (0, w))
theorem pre_zero (ls : List LawD) (w ss : List Snd) : preM ls w ss 0 0 = [] := by simp [preM]
theorem pre_last (ls : List LawD) (w ss : List Snd) : preM ls w ss 7 0 = beforeM ls w ss := by simp [preM, beforeM, searchedM]
theorem pre_next (ls : List LawD) (w ss : List Snd) (n : Nat) : preM ls w ss n (wordsM (alphaM ss) n).length = preM ls w ss (n + 1) 0 := by
 unfold preM
 rw [List.take_length, List.take_zero, List.append_nil, List.range_succ, List.flatMap_append, List.flatMap_cons, List.flatMap_nil, List.append_nil]
theorem pre_yes {ls : List LawD} {w ss x : List Snd} {n i : Nat} (h : (wordsM (alphaM ss) n)[i]? = some x) (hx : deriveM ls x = (0, w)) : preM ls w ss n (i + 1) = preM ls w ss n i ++ [x] := by
 unfold preM
 rw [take_snoc' _ i x h, ← List.append_assoc, List.filter_append, List.filter_cons_of_pos (by simpa using hx)]; rfl
theorem pre_no {ls : List LawD} {w ss x : List Snd} {n i : Nat} (h : (wordsM (alphaM ss) n)[i]? = some x) (hx : ¬ deriveM ls x = (0, w)) : preM ls w ss n (i + 1) = preM ls w ss n i := by
 unfold preM
 rw [take_snoc' _ i x h, ← List.append_assoc, List.filter_append, List.filter_cons_of_neg (by simpa using hx)]; simp
theorem pre_pre {ls : List LawD} {w ss : List Snd} {n i : Nat} (hn : n ≤ 6) : preM ls w ss n i <+: beforeM ls w ss := by
 unfold preM beforeM searchedM
 refine List.IsPrefix.filter _ ?_
 have h1 : List.range 7 = List.range n ++ n :: ((List.range 7).drop (n + 1)) := by
  have : n = 0 ∨ n = 1 ∨ n = 2 ∨ n = 3 ∨ n = 4 ∨ n = 5 ∨ n = 6 := by omega
  rcases this with rfl | rfl | rfl | rfl | rfl | rfl | rfl <;> rfl
 rw [h1, List.flatMap_append, List.flatMap_cons]
 refine (List.prefix_append_right_inj _).2 ?_
 exact (List.take_prefix _ _).trans (List.prefix_append _ _)
theorem pre_at {ls : List LawD} {w ss x : List Snd} {n i : Nat} (hn : n ≤ 6) (h : (wordsM (alphaM ss) n)[i]? = some x) (hx : deriveM ls x = (0, w)) : (beforeM ls w ss)[(preM ls w ss n i).length]? = some x := by
 have h1 := pre_yes h hx
 obtain ⟨r, hr⟩ := pre_pre (ls := ls) (w := w) (ss := ss) (i := i + 1) hn
 rw [← hr, h1, List.append_assoc, List.getElem?_append_right rr, Nat.sub_self]; rfl
def outsPre (ls : List LawD) (L : List (List Snd)) : List (List Snd × List Snd) := (L.filter fun v => decide ((deriveM ls v).1 = 0)).map fun v => (v, (deriveM ls v).2)
theorem outs_pre (ls : List LawD) (ss : List Snd) (n : Nat) : outsM11 ls ss n = outsPre ls (wordsM (alphaM ss) n) := rfl
theorem outsPre_yes {ls : List LawD} {L : List (List Snd)} {i : Nat} {x : List Snd} (h : L[i]? = some x) (hx : (deriveM ls x).1 = 0) : outsPre ls (L.take (i + 1)) = outsPre ls (L.take i) ++ [(x, (deriveM ls x).2)] := by
 unfold outsPre
 rw [take_snoc' L i x h, List.filter_append, List.filter_cons_of_pos (by simpa using hx), List.map_append]; rfl
theorem outsPre_no {ls : List LawD} {L : List (List Snd)} {i : Nat} {x : List Snd} (h : L[i]? = some x) (hx : ¬ (deriveM ls x).1 = 0) : outsPre ls (L.take (i + 1)) = outsPre ls (L.take i) := by
 unfold outsPre
 rw [take_snoc' L i x h, List.filter_append, List.filter_cons_of_neg (by simpa using hx)]; simp
theorem outsPre_all (ls : List LawD) (L : List (List Snd)) : outsPre ls (L.take L.length) = outsPre ls L := by rw [List.take_length]
theorem outsPre_at {ls : List LawD} {L : List (List Snd)} {i : Nat} {x : List Snd} (h : L[i]? = some x) (hx : (deriveM ls x).1 = 0) : (outsPre ls L)[(outsPre ls (L.take i)).length]? = some (x, (deriveM ls x).2) := by
 have h1 : L = L.take (i + 1) ++ L.drop (i + 1) := (List.take_append_drop _ _).symm
 have h2 : outsPre ls L = outsPre ls (L.take (i + 1)) ++ outsPre ls (L.drop (i + 1)) := by
  conv => lhs; rw [h1]
  unfold outsPre
  rw [List.filter_append, List.map_append]
 rw [h2, outsPre_yes h hx, List.append_assoc, List.getElem?_append_right rr, Nat.sub_self]; rfl
theorem lost_snoc (x : List Snd × List Snd) : ∀ (P fs : List (List Snd × List Snd)), lostGo (P ++ [x]) fs = lostGo P fs ++ (match (seenGo P fs).find? (fun p => decide (p.2 = x.2)) with | some p => [(p.1, x.1)] | none => []) ∧
  seenGo (P ++ [x]) fs = if (seenGo P fs).any (fun p => decide (p.2 = x.2)) = true then seenGo P fs else seenGo P fs ++ [x]
 | [], fs => by
  rcases find_any (fs := fs) (t := x.2) with ⟨⟨p, h1, _⟩, h2⟩ | ⟨h1, h2⟩
  ·rw [List.nil_append, lost_cons_some h1]
   simp only [lostGo, seenGo, h1, h2]; simp
  ·rw [List.nil_append, lost_cons_none h1]
   simp only [lostGo, seenGo, h1, h2]; simp
 | y :: P, fs => by
  rw [List.cons_append]
  rcases find_any (fs := fs) (t := y.2) with ⟨⟨p, h1, _⟩, h2⟩ | ⟨h1, h2⟩
  ·obtain ⟨i1, i2⟩ := lost_snoc x P fs
   rw [lost_cons_some h1, lost_cons_some h1, i1]
   simp only [seenGo, h2, i2, if_true]
   exact ⟨by simp, trivial⟩
  ·obtain ⟨i1, i2⟩ := lost_snoc x P (fs ++ [y])
   rw [lost_cons_none h1, lost_cons_none h1, i1]
   simp only [seenGo, h2, i2]
   exact ⟨by simp, by simp⟩
theorem lost_snoc_some {x p : List Snd × List Snd} {P : List (List Snd × List Snd)} (h : (seenGo P []).find? (fun p => decide (p.2 = x.2)) = some p) : lostGo (P ++ [x]) [] = lostGo P [] ++ [(p.1, x.1)] ∧ seenGo (P ++ [x]) [] = seenGo P [] := by
 obtain ⟨h1, h2⟩ := lost_snoc x P []
 rw [h] at h1
 refine ⟨h1, ?_⟩
 rw [h2, if_pos]
 exact List.any_eq_true.2 ⟨p, List.mem_of_find?_eq_some h, by have h5 := List.find?_some h; exact h5⟩
theorem lost_snoc_none {x : List Snd × List Snd} {P : List (List Snd × List Snd)} (h : (seenGo P []).find? (fun p => decide (p.2 = x.2)) = none) : lostGo (P ++ [x]) [] = lostGo P [] ∧ seenGo (P ++ [x]) [] = seenGo P [] ++ [x] := by
 obtain ⟨h1, h2⟩ := lost_snoc x P []
 rw [h] at h1
 refine ⟨by rw [h1]; simp, ?_⟩
 rw [h2, if_neg]
 intro hc
 obtain ⟨p, hp, he⟩ := List.any_eq_true.1 hc
 exact absurd he (List.find?_eq_none.1 h p hp)
theorem refused_many {ss : List Snd} (h : 5 < ss.length) : refusedM ss = 12 := by unfold refusedM; rw [if_pos h]
theorem refused_twice {ss : List Snd} (h : ¬ 5 < ss.length) (hv : ∀ s ∈ ss, fvalid s.1 s.2 = true) {i k : Nat} {s : Snd} (hk : k < i) (h1 : ss[i]? = some s) (h2 : ss[k]? = some s) : refusedM ss = 6 := by
 unfold refusedM
 rw [if_neg h, if_neg, if_pos]
 ·intro hn
  obtain ⟨hi, e1⟩ := List.getElem?_eq_some_iff.1 h1
  obtain ⟨hk', e2⟩ := List.getElem?_eq_some_iff.1 h2
  have := (List.getElem_inj (h₀ := hi) (h₁ := hk') hn).1 (e1.trans e2.symm)
  omega
 ·intro hc
  obtain ⟨x, hx, hb⟩ := List.any_eq_true.1 hc
  rw [hv x hx] at hb; simp at hb
theorem refused_ok {ss : List Snd} (h : ¬ 5 < ss.length) (hv : ∀ s ∈ ss, fvalid s.1 s.2 = true) (hn : ss.Nodup) : refusedM ss = 0 := by
 unfold refusedM
 rw [if_neg h, if_neg, if_neg (by simpa using hn)]
 intro hc
 obtain ⟨x, hx, hb⟩ := List.any_eq_true.1 hc
 rw [hv x hx] at hb; simp at hb
theorem nodup_take {ss : List Snd} {i : Nat} {s : Snd} (h : ss[i]? = some s) (hn : (ss.take i).Nodup) (hs : s ∉ ss.take i) : (ss.take (i + 1)).Nodup := by
 rw [take_snoc' ss i s h, List.nodup_append]
 refine ⟨hn, by simp, fun a ha b hb e => hs ?_⟩
 have hb' : b = s := by simpa using hb
 rw [← hb', ← e]; exact ha
def isSnd (p m : Int) (s : Snd) : Bool := p == s.1 && m == s.2
theorem isSnd_any (p m : Int) (xs : List Snd) : xs.any (isSnd p m) = decide ((p, m) ∈ xs) := by
 rw [Bool.eq_iff_iff, List.any_eq_true, decide_eq_true_iff]
 constructor
 ·rintro ⟨⟨a, b⟩, hs, h⟩
  simp only [isSnd, Bool.and_eq_true, beq_iff_eq] at h
  obtain ⟨rfl, rfl⟩ := h
  exact hs
 ·exact fun h => ⟨_, h, by simp [isSnd]⟩
theorem ofSnd_c (A : Option Addr) (n c : Nat) (xs : List Snd) (p m : Int) (w : World) (hx : IsWord w A n c xs) :
  Calls Tryz.prog 144 #[.slice A n c, sndV p m] w fun e w' => e = .returned (.int .i64 (idxM (isSnd p m) xs)) ∧ Below w.heap.size w w' := by
 have hm := hx.max
 have HX := hI hx; clear hx
 go_enter Tryz.func144, Tryz.ntmps144
 go_wp2
 go_loopw [5, 8] (fun _ i wr => ∃ k : Nat, k ≤ n ∧ i = .int .i64 k ∧ Hid ((xs.take k).any (isSnd p m) = false) ∧ wr.heap[w.heap.size]? = some (.cells #[.int .u32 p, .int .u32 m] 24 (0, 0)) ∧ Below w.heap.size w wr) (fun _ i _ => n - (intOf i).toNat)
 case atStart => exact ⟨0, Nat.zero_le _, rfl, by simp [Hid], hpt, bel⟩
 case round =>
  obtain ⟨k, hk, rfl, HA, hbx, hB⟩ := hrel
  have b0 : wr.cell? ⟨w.heap.size, 0, none⟩ = some (.int .u32 p) := cell_at_heap (j := 0) hbx rfl
  have b1 : wr.cell? ⟨w.heap.size, 1, none⟩ = some (.int .u32 m) := cell_at_heap (j := 1) hbx rfl
  have HBX := hI hbx; clear hbx
  by_cases hlt : k < n
  ·obtain ⟨b, off, p', m', rfl, hb, hxk, hc0, hc1⟩ := (HX.out.below hB rr).at_ hlt
   have HK := hI hxk; clear hxk
   go_wp2
   by_cases hp : isSnd p m (p', m') = true
   ·have hr := idxM_some (isSnd p m) xs k (p', m') HK.out HA.out hp
    have HR := hI hr; clear hr
    have hpe : p = p' ∧ m = m' := by simpa [isSnd] using hp
    clear hp
    obtain ⟨rfl, rfl⟩ := hpe
    go_quiet (fail)
    go_wp2
    go_ret
    exact ⟨by rw [HR.out]; rfl, bel⟩
   ·have hp' : isSnd p m (p', m') = false := by simpa using hp
    have HN := hI (show (xs.take (k + 1)).any (isSnd p m) = false by rw [take_snoc' xs k _ HK.out, List.any_append, HA.out]; simp [hp'])
    by_cases h1 : p = p'
    ·subst h1
     have he1 : (m == m') = false := by simpa [isSnd] using hp'
     clear hp hp'
     go_quiet (fail)
     go_wp2
     go_roundw
     case rel => exact ⟨k + 1, by omega, by go_num, HN, HBX.out, bel⟩
     case measure => simp [intOf]; omega
    ·have he1 : (p == p') = false := by simpa using h1
     clear hp hp' h1
     go_quiet (fail)
     go_wp2
     go_roundw
     case rel => exact ⟨k + 1, by omega, by go_num, HN, HBX.out, bel⟩
     case measure => simp [intOf]; omega
  ·obtain rfl : k = n := by omega
   have hr : idxM (isSnd p m) xs = -1 := by
    have := HA.out
    rw [List.take_of_length_le (by rw [HX.out.len]; exact rr)] at this
    exact idxM_none _ xs this
   have HR := hI hr; clear hr
   go_wp2
   go_ret
   exact ⟨by rw [HR.out]; rfl, bel⟩
theorem hasSnd_c (A : Option Addr) (n c : Nat) (xs : List Snd) (p m : Int) (w : World) (hx : IsWord w A n c xs) :
  Calls Tryz.prog 69 #[.slice A n c, sndV p m] w fun e w' => e = .returned (.bool (decide ((p, m) ∈ xs))) ∧ Below w.heap.size w w' := by
 have H := hI ((idxM_any (isSnd p m) xs).trans (isSnd_any p m xs))
 have HX := hI hx; clear hx
 go_enter Tryz.func69, Tryz.ntmps69
 go_wp2_with (go_at_call 144; refine (ofSnd_c A n c xs p m _ (HX.out.below (show Below w.heap.size w _ from bel) rr)).mono ?_; rintro e w1 ⟨rfl, hb1⟩; have hz1 := bsize hb1; (try simp only [World.size_alloc, World.size_drew, World.size_setCell] at hz1); have hB1 : Below w.heap.size w w1 := bel; clear hb1)
 go_ret
 refine ⟨?_, hB1⟩
 show Ending.returned (.bool (decide (0 ≤ idxM (isSnd p m) xs))) = _
 rw [H.out]
theorem refused1_c (p m : Int) (w : World) : Calls Tryz.prog 222 #[sndV p m] w fun e w' => e = .returned (.bool (!fvalid p m)) ∧ Below w.heap.size w w' := by
 go_enter Tryz.func222, Tryz.ntmps222
 go_wp2_with (go_at_call 93; refine (fValid_c _ _ _).mono ?_; rintro e w1 ⟨rfl, hb1⟩; have hz1 := bsize hb1; (try simp only [World.size_alloc, World.size_drew, World.size_setCell] at hz1); have c0 := fun o => hb1.cell (p := ⟨w.heap.size, o, none⟩) sd; have f0 := fun o => hb1.frozen (p := ⟨w.heap.size, o, none⟩) sd; have hB1 : Below w.heap.size w w1 := bel; clear hb1)
 go_ret
 exact ⟨rfl, bel⟩
theorem refused_c (A : Option Addr) (n c : Nat) (xs : List Snd) (w : World) (hx : IsWord w A n c xs) :
  Calls Tryz.prog 179 #[.slice A n c] w fun e w' => e = .returned (.int .i64 (refusedM xs)) ∧ Below w.heap.size w w' := by
 have hm := hx.max
 have HL : Hid (xs.length = n) := hx.len
 have HX := hI hx; clear hx
 by_cases h5 : 5 < n
 ·have HR : Hid (refusedM xs = 12) := by show refusedM xs = 12; exact refused_many (by rw [HL.out]; exact h5)
  go_enter Tryz.func179, Tryz.ntmps179
  go_wp2
  go_ret
  exact ⟨by rw [HR.out]; rfl, Below.refl _ _⟩
 have HN5 : Hid (¬ 5 < xs.length) := by show ¬ _; rw [HL.out]; exact h5
 go_enter Tryz.func179, Tryz.ntmps179
 go_wp2_with fail
 refine (anySnd_c A n c xs 222 #[] (fun s => !fvalid s.1 s.2) w HX.out (enters_of Tryz.func222 (by kernel_rfl) rfl) (fun W hB s _ => refused1_c s.1 s.2 W)).mono ?_
 rintro e w1 ⟨rfl, hb1⟩
 cases hb : xs.any (fun s => !fvalid s.1 s.2) with
 | true =>
  have HR : Hid (refusedM xs = 14) := by show refusedM xs = 14; unfold refusedM; rw [if_neg HN5.out, if_pos hb]
  clear hb
  go_wp2
  go_ret
  exact ⟨by rw [HR.out]; rfl, hb1⟩
 | false =>
  have HV : Hid (∀ s ∈ xs, fvalid s.1 s.2 = true) := fun s hs => by have := List.any_eq_false.1 hb s hs; simpa using this
  clear hb
  go_wp2
  go_loopw [3, 4, 12] (fun _ _ i wr => ∃ k : Nat, k ≤ n ∧ i = .int .i64 k ∧ Hid ((xs.take k).Nodup) ∧ Below w.heap.size w wr) (fun _ _ i _ => n - (intOf i).toNat)
  case atStart => exact ⟨0, Nat.zero_le _, rfl, by simp [Hid], hb1⟩
  case round =>
   clear hb1
   obtain ⟨k, hk, rfl, HN, hB⟩ := hrel
   by_cases hlt : k < n
   ·have hwk := HX.out.below hB rr
    obtain ⟨b, off, p', m', rfl, hb, hxk, hc0, hc1⟩ := hwk.at_ hlt
    have HK := hI hxk; clear hxk
    have hnc := hwk.2.1
    have HTK := hI (IsWord.take hwk (show k ≤ n by omega)); clear hwk
    have hkc : (k : Int) ≤ (c : Int) := by omega
    go_wp2
    go_region_held3 (fun w' => w'.cell? ⟨wr.heap.size, 0, none⟩ = some (.int .u32 p') ∧ w'.cell? ⟨wr.heap.size, 1, none⟩ = some (.int .u32 m')) (first | (go_keep; done) | ((try dsimp only); ((repeat' apply And.intro) <;> (try simp (disch := omega) only [cell_set_block, cell_new_block, World.cell?_drew]) <;> first | assumption | (simp [*, go_sem]; done)))) ((go_at_call 69; refine (hasSnd_c _ _ _ (xs.take k) p' m' _ (HTK.out.below (show Below wr.heap.size wr _ from bel) rr)).mono ?_; rintro e w1 ⟨rfl, hb1⟩; have hz1 := bsize hb1; (try simp only [World.size_alloc, World.size_drew, World.size_setCell] at hz1); have c0 := fun o => hb1.cell (p := ⟨wr.heap.size, o, none⟩) sd; have f0 := fun o => hb1.frozen (p := ⟨wr.heap.size, o, none⟩) sd; have hB1 : Below wr.heap.size wr w1 := bel; clear hb1))
    by_cases hin : (p', m') ∈ xs.take k
    ·have HR : Hid (refusedM xs = 6) := by
      show refusedM xs = 6
      obtain ⟨j, hj, hjx⟩ := List.getElem_of_mem hin
      rw [List.length_take] at hj
      rw [List.getElem_take] at hjx
      exact refused_twice HN5.out HV.out (k := j) (by omega) HK.out (by rw [List.getElem?_eq_getElem (by omega), hjx])
     rw [decide_eq_true hin]
     clear hin
     go_wp2
     go_ret
     exact ⟨by rw [HR.out]; rfl, hB.trans (hB1.mono hB.size)⟩
    ·have HN2 := hI (nodup_take HK.out HN.out hin)
     rw [decide_eq_false hin]
     clear hin
     go_wp2
     go_roundw
     case rel => exact ⟨k + 1, by omega, by go_num, HN2, hB.trans (hB1.mono hB.size)⟩
     case measure => simp [intOf]; omega
   ·obtain rfl : k = n := by omega
    have HR : Hid (refusedM xs = 0) := by
     have := HN.out
     rw [List.take_of_length_le (by rw [HL.out]; exact rr)] at this
     exact refused_ok HN5.out HV.out this
    go_wp2
    go_ret
    exact ⟨by rw [HR.out]; rfl, hB⟩
theorem wrong_c (A : Option Addr) (n c : Nat) (xs : List LawR) (Aw : Option Addr) (nw cw : Nat) (ws : List Snd) (As : Option Addr) (ns cs : Nat) (ss : List Snd) (w : World) (hx : IsLaws w A n c xs) (hw : IsWord w Aw nw cw ws) (hs : IsWord w As ns cs ss) :
  Calls Tryz.prog 140 #[.slice A n c, .slice Aw nw cw, .slice As ns cs] w fun e w' => e = .returned (.int .i64 (wrongM (lawsD xs) ws ss)) ∧ Below w.heap.size w w' := by
 have HX := hI hx; have HW := hI hw; have HS := hI hs
 clear hx hw hs
 go_enter Tryz.func140, Tryz.ntmps140
 go_wp2_with fail
 refine (dCheck_c A n c xs w HX.out).mono ?_
 rintro e w1 ⟨rfl, hb1⟩
 have HB1 := hI hb1; clear hb1
 by_cases h1 : lawsE (lawsD xs) = 0
 case neg =>
  have h1' : (lawsE (lawsD xs) != 0) = true := by simpa using h1
  have HR : Hid (wrongM (lawsD xs) ws ss = lawsE (lawsD xs)) := by show wrongM _ _ _ = _; unfold wrongM; rw [if_pos h1]
  clear h1
  go_wp2
  go_ret
  exact ⟨by rw [HR.out]; rfl, HB1.out⟩
 have h1' : (lawsE (lawsD xs) != 0) = false := by simpa using h1
 have HR1 : Hid (wrongM (lawsD xs) ws ss = if wcheck ws ≠ 0 then wcheck ws else refusedM ss) := by show wrongM _ _ _ = _; unfold wrongM; rw [if_neg (by simpa using h1)]
 clear h1
 go_wp2_with fail
 refine (wCheck_c Aw nw cw ws w1 (HW.out.below HB1.out rr)).mono ?_
 rintro e w2 ⟨rfl, hb2⟩
 have HB2 := hI (HB1.out.trans (hb2.mono HB1.out.size)); clear hb2
 by_cases h2 : wcheck ws = 0
 case neg =>
  have h2' : (wcheck ws != 0) = true := by simpa using h2
  have HR : Hid (wrongM (lawsD xs) ws ss = wcheck ws) := by show wrongM _ _ _ = _; rw [HR1.out, if_pos h2]
  clear h2
  go_wp2
  go_ret
  exact ⟨by rw [HR.out]; rfl, HB2.out⟩
 have h2' : (wcheck ws != 0) = false := by simpa using h2
 have HR : Hid (wrongM (lawsD xs) ws ss = refusedM ss) := by show wrongM _ _ _ = _; rw [HR1.out, if_neg (by simpa using h2)]
 clear h2
 go_wp2_with fail
 refine (refused_c As ns cs ss w2 (HS.out.below HB2.out rr)).mono ?_
 rintro e w3 ⟨rfl, hb3⟩
 have HB3 := hI (HB2.out.trans (hb3.mono HB2.out.size)); clear hb3
 go_wp2
 go_ret
 exact ⟨by rw [HR.out]; rfl, HB3.out⟩
end Go.Proofs.YtlgliddhideflaaGreatDoor

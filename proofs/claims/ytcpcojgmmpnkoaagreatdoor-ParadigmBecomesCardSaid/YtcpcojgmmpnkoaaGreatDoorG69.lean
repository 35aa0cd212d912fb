/-
  ablautlaw29: light, copied.
-/
import Derived.Test.YtcpcojgmmpnkoaaGreatDoorG63
set_option linter.all false
set_option maxRecDepth 100000
set_option maxHeartbeats 4000000
namespace Go.Proofs.YtcpcojgmmpnkoaaGreatDoor
open Go.RowKit Go.Shelf
theorem wp_append_snd {o : Oper} {a : Act} {w : World} {K : Act → World → Prop} {Q : Exit → Act → World → Prop} (s x : Operand)
  (ho : o.op = .call { callee := .builtin .append, args := #[s, x], argTypes := #[32, 32] })
  (base : Nat) (v : Value) (n : Nat) (xs : List Snd) (hs : a.eval s = v) (hown : w.ownsRow base 24 2 v n (wcells xs))
  (A : Option Addr) (m c : Nat) (ys : List Snd) (hx : a.eval x = .slice A m c) (hr : IsWord w A m c ys) (hl : n + m ≤ 4096) (hbase : base ≤ w.heap.size)
  (h : ∀ v' w', w'.ownsRow base 24 2 v' (n + m) (wcells (xs ++ ys)) → w.grownBy w' v.ownBlock → K (a.put o.dst v') w') : o.wp Tryz.prog a w K Q := by
 obtain ⟨i0, hi, hz0, hz1, hz2⟩ := info_parts snd_info
 refine wp_append_cells w s x 32 ho base 24 i0 _ 2 8 Tryz.underlying32 hi hz0 hz1 hz2 rfl (by decide) v n (wcells xs) hs hown A m c (wcells ys) hx hr
  (wcells_one ys) (by unfold maxLen; omega) (by omega) hbase ?_
 rw [← wcells_append]
 exact fun v' w' h1 h2 _ => h v' w' h1 h2
def LightOK (T : List (List Frm)) : Prop := T.length ≤ 70 ∧ ∀ l ∈ T, l.length ≤ 20 ∧ ∀ x ∈ l, x.2.length ≤ 40
def RetLight (w : World) (T : List (List Frm)) (e : Ending) (w' : World) : Prop := (∃ b : Bool, e = .returned (.bool b) ∧ (b = true → LightOK T)) ∧ Below w.heap.size w w'
theorem light29_c (A : Option Addr) (n c : Nat) (T : List (List Frm)) (w : World) (hx : IsPar w A n c T) :
  Calls Tryz.prog 42 #[.slice A n c] w (RetLight w T) := by
 have hm := hx.max
 have HX := hI hx; clear hx
 go_enter Tryz.func42, Tryz.ntmps42
 go_wp2_with fail
 go_loopw [3] (fun vi wr => ∃ i : Nat, vi = .int .i64 i ∧ i ≤ n ∧ Hid (∀ l ∈ T.take i, l.length ≤ 20 ∧ ∀ x ∈ l, x.2.length ≤ 40) ∧ Below w.heap.size w wr) (fun vi _ => n - (intOf vi).toNat)
 case atStart => exact ⟨0, rfl, Nat.zero_le _, (fun l hl => by simp at hl), Below.refl _ _⟩
 case round =>
  obtain ⟨i, rfl, hi, hall, hB⟩ := hrel
  by_cases hlt : i < n
  ·have hi1 : (i : Int) < (n : Int) := by omega
   obtain ⟨b, off, A1, n1, c1, l, rfl, hbl, hc1, hlk, hfl⟩ := HX.out.at_ hlt
   have HC1 := hI hc1; clear hc1
   have hm1 := hfl.max
   have HLN : Hid (l.length = n1) := hfl.len
   have HLK := hI hlk
   have HF := hI hfl
   clear hlk hfl
   go_wp2_with fail
   go_loopw [4] (fun vj wr => ∃ j : Nat, vj = .int .i64 j ∧ j ≤ n1 ∧ Hid (∀ x ∈ l.take j, x.2.length ≤ 40) ∧ Below w.heap.size w wr) (fun vj _ => n1 - (intOf vj).toNat)
   case atStart => exact ⟨0, rfl, Nat.zero_le _, (fun x hx => by simp at hx), hB⟩
   case round =>
    obtain ⟨j, rfl, hj, hal2, hB2⟩ := hrel
    have hd1 := (hB2.cell (p := ⟨b, off + i, none⟩) hbl).trans HC1.out
    by_cases hltj : j < n1
    ·have hj1 : (j : Int) < (n1 : Int) := by omega
     obtain ⟨b2, off2, h, A2, n2, c2, ws, rfl, hb2, e0, e1, hlj, hwj⟩ := (HF.out.below hB2 rr).at_ hltj
     have hm2 := hwj.max
     have HWL : Hid (ws.length = n2) := hwj.len
     have HLJ := hI hlj
     clear hlj hwj
     by_cases hp : 40 < n2
     ·have hp' : (40 : Int) < (n2 : Int) := by omega
      go_wp2
      go_ret
      exact ⟨⟨false, rfl, fun h => by cases h⟩, hB2⟩
     ·have hp' : ¬ (40 : Int) < (n2 : Int) := by omega
      have HN : Hid (∀ x ∈ l.take (j + 1), x.2.length ≤ 40) := fun x hx => by
       rw [take_snoc' l j _ HLJ.out] at hx
       rcases List.mem_append.1 hx with hx | hx
       ·exact hal2.out x hx
       ·obtain rfl : x = (h, ws) := by simpa using hx
        show ws.length ≤ 40
        rw [HWL.out]; omega
      go_wp2
      go_roundw
      case rel => exact ⟨j + 1, by go_num, by omega, HN.out, hB2⟩
      case measure => simp [intOf]; omega
    ·have hj1 : ¬ (j : Int) < (n1 : Int) := by omega
     by_cases h20 : 20 < n1
     ·have h20' : (20 : Int) < (n1 : Int) := by omega
      go_wp2
      go_ret
      exact ⟨⟨false, rfl, fun h => by cases h⟩, hB2⟩
     ·have h20' : ¬ (20 : Int) < (n1 : Int) := by omega
      have HN : Hid (∀ l' ∈ T.take (i + 1), l'.length ≤ 20 ∧ ∀ x ∈ l', x.2.length ≤ 40) := fun l' hl => by
       rw [take_snoc' T i _ HLK.out] at hl
       rcases List.mem_append.1 hl with hl | hl
       ·exact hall.out l' hl
       ·obtain rfl : l' = l := by simpa using hl
        refine ⟨by rw [HLN.out]; omega, ?_⟩
        have := hal2.out
        rwa [List.take_of_length_le (by rw [HLN.out]; omega)] at this
      go_wp2
      go_roundw
      case rel => exact ⟨i + 1, by go_num, by omega, HN.out, hB2⟩
      case measure => simp [intOf]; omega
  ·have hi1 : ¬ (i : Int) < (n : Int) := by omega
   have HALL : Hid (∀ l ∈ T, l.length ≤ 20 ∧ ∀ x ∈ l, x.2.length ≤ 40) := by
    have := hall.out
    rwa [List.take_of_length_le (by rw [HX.out.len]; omega)] at this
   have HLT : Hid (T.length = n) := HX.out.len
   by_cases h12 : n ≤ 12
   ·have h12' : (n : Int) ≤ 12 := by omega
    go_wp2
    go_ret
    exact ⟨⟨true, rfl, fun _ => ⟨by rw [HLT.out]; omega, HALL.out⟩⟩, hB⟩
   have h12' : ¬ (n : Int) ≤ 12 := by omega
   by_cases h64 : 64 < n
   ·have h64' : (64 : Int) < (n : Int) := by omega
    by_cases h70 : n ≤ 70
    ·have h70' : (n : Int) ≤ 70 := by omega
     go_wp2
     go_ret
     exact ⟨⟨true, rfl, fun _ => ⟨by rw [HLT.out]; omega, HALL.out⟩⟩, hB⟩
    ·have h70' : ¬ (n : Int) ≤ 70 := by omega
     go_wp2
     go_ret
     exact ⟨⟨false, rfl, fun h => by cases h⟩, hB⟩
   ·have h64' : ¬ (64 : Int) < (n : Int) := by omega
    go_wp2
    go_ret
    exact ⟨⟨false, rfl, fun h => by cases h⟩, hB⟩
def RetPar0 (w : World) (T : List (List Frm)) (e : Ending) (w' : World) : Prop := ∃ A n c, e = .returned (.slice A n c) ∧ IsPar w' A n c T ∧ Below w.heap.size w w'
theorem copied29_c (A : Option Addr) (n c : Nat) (T : List (List Frm)) (w : World) (hx : IsPar w A n c T) (hl : LightOK T) :
  Calls Tryz.prog 44 #[.slice A n c] w (RetPar0 w T) := by
 have hm := hx.max
 have hn70 : n ≤ 70 := by rw [← hx.len]; exact hl.1
 have HX := hI hx; clear hx
 have HL := hI hl; clear hl
 go_enter Tryz.func44, Tryz.ntmps44
 go_wp2_with fail
 go_loopw [3, 4] (fun v vi wr => ∃ (i : Nat) (rs : List RowR), vi = .int .i64 i ∧ i ≤ n ∧ Hid (rs.length = i) ∧ Hid (ParW wr w.heap.size v rs) ∧ Hid (rs.map RowR.l = T.take i) ∧ Below w.heap.size w wr) (fun _ vi _ => n - (intOf vi).toNat)
 case atStart => exact ⟨0, [], rfl, Nat.zero_le _, rfl, ParW.nil _, by simp [Hid], Below.refl _ _⟩
 case round =>
  obtain ⟨i, rs, rfl, hi, HRI, hpw, hdat, hB⟩ := hrel
  have hBs := hB.size
  by_cases hlt : i < n
  ·have hi1 : (i : Int) < (n : Int) := by omega
   obtain ⟨b, off, A1, n1, c1, l, rfl, hbl, hc1, hlk, hfl⟩ := HX.out.at_ hlt
   have HC1 := hI hc1; clear hc1
   have hm1 := hfl.max
   have hmem := List.mem_of_getElem? hlk
   have hn20 : n1 ≤ 20 := by rw [← hfl.len]; exact (HL.out.2 l hmem).1
   have H40 : Hid (∀ x ∈ l, x.2.length ≤ 40) := (HL.out.2 l hmem).2
   have HLK := hI hlk
   have HF := hI hfl
   clear hlk hfl hmem
   obtain ⟨wi, hwi⟩ : ∃ wi, wi = wr := ⟨_, rfl⟩
   rw [← hwi] at hpw hB hBs
   have hwis : wi.heap.size = wr.heap.size := by rw [hwi]
   have HWI := hI hwi
   clear hwi
   go_wp2_with fail
   go_loopw [5, 6] (fun u vj wr => ∃ (j : Nat) (fs : List FormR), vj = .int .i64 j ∧ j ≤ n1 ∧ fs.length = j ∧ Hid (FrmW wr wi.heap.size u fs) ∧ Hid (∀ f ∈ fs, ∀ ad, f.p.1 = some ad → wi.heap.size ≤ ad.block) ∧ Hid (fs.map FormR.data = l.take j) ∧ Below wi.heap.size wi wr) (fun _ vj _ => n1 - (intOf vj).toNat)
   case atStart => exact ⟨0, [], rfl, Nat.zero_le _, rfl, by rw [← HWI.out]; exact FrmW.nil _, (fun f hf => by cases hf), by simp [Hid], by rw [← HWI.out]; exact Below.refl _ _⟩
   case round =>
    obtain ⟨j, fs, rfl, hj, hfl, hfw, hfr, hda2, hB2⟩ := hrel
    have hB2s := hB2.size
    have hBB2 := hB.trans (hB2.mono hBs)
    have hd1 := (hBB2.cell (p := ⟨b, off + i, none⟩) hbl).trans HC1.out
    by_cases hltj : j < n1
    ·have hj1 : (j : Int) < (n1 : Int) := by omega
     obtain ⟨b2, off2, h, A2, n2, c2, ws, rfl, hb2w, e00, e10, hlj, hwj⟩ := HF.out.at_ hltj
     have e0 := (hBB2.cell (p := ⟨b2, off2 + j * 2, none⟩) hb2w).trans e00
     have e1 := (hBB2.cell (p := ⟨b2, off2 + j * 2 + 1, none⟩) hb2w).trans e10
     replace hwj := hwj.below hBB2 rr
     have hBw := hB.size
     have hb2i : b2 < wi.heap.size := by omega
     have hbi : b < wi.heap.size := by omega
     have hbw : b < wr.heap.size := by omega
     have hb2 : b2 < wr.heap.size := by omega
     clear e00 e10
     have h40 : ws.length ≤ 40 := H40.out _ (List.mem_of_getElem? hlj)
     rw [hwj.len] at h40
     have HW := hI hwj
     have HLJ := hI hlj
     clear hlj hwj
     go_wp2_with fail
     refine plain_region (fun W' => W'.cell? ⟨b, off + i, none⟩ = some (.slice (some ⟨b2, off2, none⟩) n1 c1) ∧ W'.cell? ⟨b2, off2 + j * 2, none⟩ = some (.bool h) ∧ W'.cell? ⟨b2, off2 + j * 2 + 1, none⟩ = some (.slice A2 n2 c2)) (by kernel_rfl) ⟨hd1, e0, e1⟩ (fun hHeld => ?_)
     (refine' anyT_tk 0 rfl ?_; (try simp only [Act.put, nY, nX])); (refine' anyT_tk 1 rfl ?_; (try simp only [Act.put, nY, nX])); (refine' anyT_tk 2 rfl ?_; (try simp only [Act.put, nY, nX])); (refine' anyT_tk 3 rfl ?_; (try simp only [Act.put, nY, nX])); (refine' anyT_tk 4 rfl ?_; (try simp only [Act.put, nY, nX])); (refine' anyT_tk 5 rfl ?_; (try simp only [Act.put, nY, nX])); (refine' anyT_tk 6 rfl ?_; (try simp only [Act.put, nY, nX])); (refine' anyT_tk 7 rfl ?_; (try simp only [Act.put, nY, nX])); (refine' anyT_tk 8 rfl ?_; (try simp only [Act.put, nY, nX])); (refine' anyT_tk 10 rfl ?_; (try simp only [Act.put, nY, nX])); (refine' anyT_tk 11 rfl ?_; (try simp only [Act.put, nY, nX])); (refine' anyT_tk 12 rfl ?_; (try simp only [Act.put, nY, nX])); (refine' anyT_tk 13 rfl ?_; (try simp only [Act.put, nY, nX])); (refine' anyT_tk 14 rfl ?_; (try simp only [Act.put, nY, nX])); (refine' anyT_tk 15 rfl ?_; (try simp only [Act.put, nY, nX])); (refine' anyT_tk 16 rfl ?_; (try simp only [Act.put, nY, nX])); (refine' anyT_tk 17 rfl ?_; (try simp only [Act.put, nY, nX]))
     (refine anyT_sp 9 rfl (fun K' hK' => ?_); simp only [nY]; go_simp)
     have hb6 : Below wr.heap.size wr (wr.alloc (.cells #[] 24)).drew := ((Below.refl wr.heap.size wr).alloc rr _).drew
     have hown6 : (wr.alloc (.cells #[] 24)).drew.ownsRow wr.heap.size 24 2 (.slice (some ⟨wr.heap.size, 0, none⟩) 0 0) 0 (wcells []) := World.ownsRow_made (base := wr.heap.size) (e := 24) (size := 2) wr #[] 0 rr (by simp [maxLen]) rfl
     have hS6 : (wr.alloc (.cells #[] 24)).drew.cell? ⟨b, off + i, none⟩ = some (.slice (some ⟨b2, off2, none⟩) n1 c1) ∧ (wr.alloc (.cells #[] 24)).drew.cell? ⟨b2, off2 + j * 2, none⟩ = some (.bool h) ∧ (wr.alloc (.cells #[] 24)).drew.cell? ⟨b2, off2 + j * 2 + 1, none⟩ = some (.slice A2 n2 c2) := ⟨(hb6.cell (p := ⟨b, off + i, none⟩) hbw).trans hd1, (hb6.cell (p := ⟨b2, off2 + j * 2, none⟩) hb2).trans e0, (hb6.cell (p := ⟨b2, off2 + j * 2 + 1, none⟩) hb2).trans e1⟩
     refine hK' _ _ ⟨.inr hS6, fun _ => ?_⟩
     clear hK' K' hHeld hS6
     (try simp only [Act.put, nY, nX])
     have hz6 : wr.heap.size + 1 = (wr.alloc (.cells #[] 24)).drew.heap.size := by simp
     generalize (wr.alloc (.cells #[] 24)).drew = V6 at *
     have HB6 := hI hb6
     have HO6 := hI hown6
     clear hb6 hown6
     refine anyT_sp 18 rfl (fun K' hK' => ?_)
     rw [if_pos (by rfl)]
     refine wp_append_snd (.tmp 31) (.tmp 39) rfl wr.heap.size _ 0 [] (by rfl) HO6.out A2 n2 c2 ws (by rfl) (HW.out.below HB6.out rr) (by omega) (by omega) ?_
     intro v7 w7 hown7 hg7
     have hb7 : Below wr.heap.size wr w7 := own_below HB6.out HO6.out hg7 rr (by omega)
     have hown7' : w7.ownsRow wr.heap.size 24 2 v7 n2 (wcells ws) := by simpa using hown7
     obtain ⟨A7, c7, rfl⟩ := own_form hown7'
     have hw7 : IsWord w7 A7 n2 c7 ws := Cells.of_own hown7' (by decide)
     have hf7 := own_addr hown7'
     have hS7 : w7.cell? ⟨b, off + i, none⟩ = some (.slice (some ⟨b2, off2, none⟩) n1 c1) ∧ w7.cell? ⟨b2, off2 + j * 2, none⟩ = some (.bool h) ∧ w7.cell? ⟨b2, off2 + j * 2 + 1, none⟩ = some (.slice A2 n2 c2) := ⟨(hb7.cell (p := ⟨b, off + i, none⟩) hbw).trans hd1, (hb7.cell (p := ⟨b2, off2 + j * 2, none⟩) hb2).trans e0, (hb7.cell (p := ⟨b2, off2 + j * 2 + 1, none⟩) hb2).trans e1⟩
     refine hK' _ _ ⟨.inr hS7, fun _ => ?_⟩
     have HB7 := hI hb7
     have HW7 := hI hw7
     have HF7 := hI hf7
     clear hK' K' hown7 hown7' hg7 hw7 hf7 hb7 hz6
     (try simp only [Act.put, nY, nX])
     (refine' anyT_tk 19 rfl ?_; (try simp only [Act.put, nY, nX]))
     (refine anyT_sp 20 rfl (fun K' hK' => ?_); simp only [nY]; go_simp)
     obtain ⟨f, hf⟩ : ∃ f : FormR, f = ⟨h, (A7, n2, c7, ws)⟩ := ⟨_, rfl⟩
     have hb8 : Below wr.heap.size wr (w7.alloc (.cells #[.bool h, .slice A7 n2 c7] 77)) := HB7.out.alloc HB7.out.size _
     have hz8 : (w7.alloc (.cells #[.bool h, .slice A7 n2 c7] 77)).heap[w7.heap.size]? = some (.cells #[.bool f.h, .slice f.p.1 f.p.2.1 f.p.2.2.1] 77 (0, 0)) := by rw [hf]; exact heap_new_at rfl
     have hw8 : IsWord (w7.alloc (.cells #[.bool h, .slice A7 n2 c7] 77)) f.p.1 f.p.2.1 f.p.2.2.1 f.p.2.2.2 := by rw [hf]; exact HW7.out.below ((Below.refl w7.heap.size w7).alloc rr _) rr
     have hf8 : ∀ ad, f.p.1 = some ad → wr.heap.size ≤ ad.block := by rw [hf]; exact HF7.out
     have hS8 : (w7.alloc (.cells #[.bool h, .slice A7 n2 c7] 77)).cell? ⟨b, off + i, none⟩ = some (.slice (some ⟨b2, off2, none⟩) n1 c1) ∧ (w7.alloc (.cells #[.bool h, .slice A7 n2 c7] 77)).cell? ⟨b2, off2 + j * 2, none⟩ = some (.bool h) ∧ (w7.alloc (.cells #[.bool h, .slice A7 n2 c7] 77)).cell? ⟨b2, off2 + j * 2 + 1, none⟩ = some (.slice A2 n2 c2) := ⟨(hb8.cell (p := ⟨b, off + i, none⟩) hbw).trans hd1, (hb8.cell (p := ⟨b2, off2 + j * 2, none⟩) hb2).trans e0, (hb8.cell (p := ⟨b2, off2 + j * 2 + 1, none⟩) hb2).trans e1⟩
     refine hK' _ _ ⟨.inr hS8, fun _ => ?_⟩
     clear hK' K' hS7 hS8
     (try simp only [Act.put, nY, nX])
     have HFW6 := hI (hfw.out.below hb8)
     have HAW6 := hI (hfw.out.fresh (q := f.p) hw8 hf8)
     have hB6 : Below wi.heap.size wi (w7.alloc (.cells #[.bool h, .slice A7 n2 c7] 77)) := hB2.trans (hb8.mono hB2s)
     have HDAT : Hid ((fs ++ [f]).map FormR.data = l.take (j + 1)) := by
      show _ = _
      rw [take_snoc' l j _ HLJ.out, List.map_append, hda2.out, hf]; rfl
     have HFR : Hid (∀ f' ∈ fs ++ [f], ∀ ad, f'.p.1 = some ad → wi.heap.size ≤ ad.block) := fun f' hf' ad had => by
      rcases List.mem_append.1 hf' with h1 | h1
      ·exact hfr.out f' h1 ad had
      ·obtain rfl : f' = f := by simpa using h1
       exact Nat.le_trans hB2s (hf8 ad had)
     have hfl' : fs.length ≤ 20 := by omega
     have HFL := hI hfl
     clear hf hw8 hf8 hb8 hfl
     generalize (w7.alloc (.cells #[.bool h, .slice A7 n2 c7] 77)) = V8 at *
     refine anyT_sp 21 rfl (fun K' hK' => ?_)
     rw [if_pos (by rfl)]
     refine wp_append_own_at (.tmp 22) (.tmp 42) 70 rfl wi.heap.size 77 (.agg #[.bool false, .slice none 0 0]) 2 32 Tryz.underlying70 form_info rfl (by decide) u5 fs.length (fs.flatMap FormR.cells) (by rfl) HFW6.out.own ⟨w7.heap.size, 0, none⟩ 1 1 f.cells (by rfl) rfl (form_cells hz8) form_one (by unfold maxLen; omega) (by omega) hB6.size ?_
     intro v9 X9 hown9 hg9 _ hat9
     have HFW9 := hI (HFW6.out.push HAW6.out hown9 hg9 hat9)
     have hB9 : Below wi.heap.size wi X9 := own_below hB6 HFW6.out.own hg9 rr hB6.size
     have hBB9 := hB.trans (hB9.mono hBs)
     have hnb2 : u5.ownBlock ≠ some b2 := fun e => by have h1 := (HFW6.out.own.lt _ e).1; omega
     have hnb : u5.ownBlock ≠ some b := fun e => by have h1 := (HFW6.out.own.lt _ e).1; omega
     have hS9 : X9.cell? ⟨b, off + i, none⟩ = some (.slice (some ⟨b2, off2, none⟩) n1 c1) ∧ X9.cell? ⟨b2, off2 + j * 2, none⟩ = some (.bool h) ∧ X9.cell? ⟨b2, off2 + j * 2 + 1, none⟩ = some (.slice A2 n2 c2) := ⟨(hB9.cell (p := ⟨b, off + i, none⟩) hbi).trans ((hB2.cell (p := ⟨b, off + i, none⟩) hbi).symm.trans hd1), (hB9.cell (p := ⟨b2, off2 + j * 2, none⟩) hb2i).trans ((hB2.cell (p := ⟨b2, off2 + j * 2, none⟩) hb2i).symm.trans e0), (hB9.cell (p := ⟨b2, off2 + j * 2 + 1, none⟩) hb2i).trans ((hB2.cell (p := ⟨b2, off2 + j * 2 + 1, none⟩) hb2i).symm.trans e1)⟩
     refine hK' _ _ ⟨.inr hS9, fun _ => ?_⟩
     clear hK' K' hown9 hg9 hat9 hnb hnb2 hd1 e0 e1
     (try simp only [Act.put, nY, nX])
     (refine anyT_sp 22 rfl (fun K' hK' => ?_); simp only [nY]; go_simp)
     refine hK' _ _ ⟨.inl (by kernel_rfl), fun _ => anyT_done (by kernel_rfl) ?_ _⟩
     clear hK' K' hS9
     go_wp2
     go_roundw
     case rel => exact ⟨j + 1, fs ++ [f], by go_num, by omega, by rw [List.length_append, HFL.out]; rfl, HFW9.out, HFR.out, HDAT.out, hB9⟩
     case measure => simp [intOf]; omega
    ·have hj1 : ¬ (j : Int) < (n1 : Int) := by omega
     have HDF : Hid (fs.map FormR.data = l) := by show _ = _; rw [hda2.out, List.take_of_length_le (by rw [HF.out.len]; omega)]
     obtain ⟨A8, c8, hv8⟩ := own_form hfw.out.own
     obtain ⟨A7, c7, hv7⟩ := own_form hpw.out.own
     subst hv8 hv7
     have haw : FAway (.slice A7 rs.length c7) wr ⟨A8, fs.length, c8, fs.map FormR.data⟩ := FrmW.away (v' := .slice A7 rs.length c7) hfw.out rfl (fun k e => (hpw.out.own.lt k e).2) (fun f hf ad had _ e => by have h1 := (hpw.out.own.lt _ e).2; have h2 := hfr.out f hf ad had; omega)
     have hb4 : Below wr.heap.size wr (wr.alloc (.cells #[.slice A8 fs.length c8] 70)) := bel
     have HFA := hI (haw.below hb4)
     have hpr : ParW wr w.heap.size (.slice A7 rs.length c7) rs := hpw.out.below hB2
     have HPW := hI (hpr.below hb4)
     have hB4 := hBB2.trans (hb4.mono hBB2.size)
     have HN : Hid ((rs ++ [(⟨A8, fs.length, c8, fs.map FormR.data⟩ : RowR)]).map RowR.l = T.take (i + 1)) := by
      show _ = _
      rw [take_snoc' T i _ HLK.out, List.map_append, hdat.out]
      show _ ++ [fs.map FormR.data] = _
      rw [HDF.out]
     have hri : rs.length ≤ 70 := by have := HRI.out; omega
     have HFL := hI hfl
     clear haw hpr hfl
     go_wp2_with (at_builtin; refine append_fms rfl (.tmp 44) (.tmp 46) rfl w.heap.size (.slice A7 rs.length c7) rs.length (rs.map RowR.val) rfl HPW.out.own ⟨wr.heap.size, 0, none⟩ 1 (.slice A8 fs.length c8) rfl (cell_one_new _ _ _) rfl ?hl ?hz ?hc)
     case hl => omega
     case hz => simpa using hB4.size
     case hc =>
      intro v' w9 hown9 hg9 hat9
      have HP9 := hI (HPW.out.push HFA.out hown9 hg9 (by simpa using hat9))
      have hB9 : Below w.heap.size w w9 := own_below hB4 HPW.out.own hg9 rr hB4.size
      clear hown9 hg9 hat9
      go_wp2
      go_roundw
      case rel => exact ⟨i + 1, _, by go_num, by omega, by show _ = _; rw [List.length_append, HRI.out]; rfl, HP9.out, HN.out, hB9⟩
      case measure => simp [intOf]; omega
  ·have hi1 : ¬ (i : Int) < (n : Int) := by omega
   have HD : Hid (rs.map RowR.l = T) := by show _ = _; rw [hdat.out, List.take_of_length_le (by rw [HX.out.len]; omega)]
   obtain ⟨A8, c8, hv8⟩ := own_form hpw.out.own
   subst hv8
   have hip := hpw.out.par rfl
   rw [HD.out] at hip
   have HIP := hI hip; clear hip
   go_wp2
   go_ret
   exact ⟨A8, _, c8, rfl, HIP.out, hB⟩
end Go.Proofs.YtcpcojgmmpnkoaaGreatDoor

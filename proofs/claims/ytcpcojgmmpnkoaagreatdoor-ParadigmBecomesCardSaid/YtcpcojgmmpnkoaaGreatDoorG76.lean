/-
  ablautlaw29: one, Made.
-/
import Derived.Test.YtcpcojgmmpnkoaaGreatDoorG75
import Derived.Test.YtcpcojgmmpnkoaaGreatDoorG74
import Derived.Test.YtcpcojgmmpnkoaaGreatDoorG71
set_option linter.all false
set_option maxRecDepth 100000
set_option maxHeartbeats 4000000
namespace Go.Proofs.YtcpcojgmmpnkoaaGreatDoor
open Go.RowKit Go.Shelf
def RetFrm (w : World) (f : Frm) (e : Ending) (w' : World) : Prop := ∃ A n c, e = .returned (.agg #[.bool f.1, .slice A n c]) ∧ IsWord w' A n c f.2 ∧ Below w.heap.size w w' ∧ ∀ ad, A = some ad → w.heap.size ≤ ad.block
theorem one_c (x : Nat) (hx : x < 256) (w : World) : Calls Tryz.prog 67 #[.int .u8 x] w (RetFrm w (oneM x)) := by
 go_enter Tryz.func67, Tryz.ntmps67
 by_cases h255 : x = 255
 ·subst h255
  go_wp2
  refine bodyPost_ret (results_cell_form Tryz.results67 _ _ w.heap.size false none 0 0 rfl ?_) rfl ⟨none, 0, 0, rfl, Cells.nil _ _, bel, fun ad h => by cases h⟩
  exact hpt
 have h1 : ((x : Int) == 255) = false := by simp; omega
 go_wp2_with fail
 have hx0 : ((w.alloc (.cells #[.bool false, .slice none 0 0] 77)).alloc (.cells #[.bool true, .slice none 0 0] 77)).heap[w.heap.size + 1]? = some (.cells #[.bool true, .slice none 0 0] 77 (0, 0)) := hpt
 have hr0 : ((w.alloc (.cells #[.bool false, .slice none 0 0] 77)).alloc (.cells #[.bool true, .slice none 0 0] 77)).heap[w.heap.size]? = some (.cells #[.bool false, .slice none 0 0] 77 (0, 0)) := hpt
 have hB0 : Below w.heap.size w ((w.alloc (.cells #[.bool false, .slice none 0 0] 77)).alloc (.cells #[.bool true, .slice none 0 0] 77)) := bel
 generalize ((w.alloc (.cells #[.bool false, .slice none 0 0] 77)).alloc (.cells #[.bool true, .slice none 0 0] 77)) = V1 at *
 obtain ⟨br, hbr⟩ : ∃ br, br = w.heap.size := ⟨_, rfl⟩
 have hbw : w.heap.size ≤ br := Nat.le_of_eq hbr.symm
 rw [← hbr] at hx0 hr0 ⊢
 obtain ⟨bx, hbx⟩ : ∃ bx, bx = br + 1 := ⟨_, rfl⟩
 rw [← hbx] at hx0 ⊢
 have hbxV := lt_of_block hx0
 have hbrV := lt_of_block hr0
 clear hbr
 have hbne : bx ≠ br := by omega
 have hbxw : w.heap.size ≤ bx := by omega
 clear hbx
 obtain ⟨m, hm⟩ : ∃ m, m = x % 4 := ⟨_, rfl⟩
 have hm4 : m < 4 := by omega
 obtain ⟨L, hL⟩ : ∃ L : List Snd, L = (List.range m).map fun k => oneS (x / 2 ^ (2 + 2 * k) % 4) := ⟨_, rfl⟩
 have HM : Hid (oneM x = (true, L)) := by show _ = _; unfold oneM; rw [if_neg h255, ← hm, ← hL]
 have HLN : Hid (L.length = m) := by show _ = _; rw [hL]; simp
 have HLA : Hid (∀ k, k < m → L[k]? = some (oneS (x / 2 ^ (2 + 2 * k) % 4))) := fun k hk => by rw [hL, List.getElem?_map, List.getElem?_range hk]; rfl
 have HX0 := hI hx0
 have HR0 := hI hr0
 have HB0 := hI hB0
 have HMX := hI hm
 clear hx0 hr0 hB0 hL hm h255 h1
 go_loopw [4] (fun vk wr => ∃ (k : Nat) (v : Value), vk = .int .i64 k ∧ k ≤ m ∧ Hid (wr.heap[bx]? = some (.cells #[.bool true, v] 77 (0, 0))) ∧ Hid (wr.heap[br]? = some (.cells #[.bool false, .slice none 0 0] 77 (0, 0))) ∧ Hid (wr.ownsRow V1.heap.size 24 2 v k (wcells (L.take k))) ∧ V1.heap.size ≤ wr.heap.size ∧ Below w.heap.size w wr) (fun vk _ => m - (intOf vk).toNat)
 case atStart => exact ⟨0, .slice none 0 0, rfl, Nat.zero_le _, HX0.out, HR0.out, World.ownsRow_nil _ _ _ _, rr, HB0.out⟩
 case round =>
  obtain ⟨k, v, rfl, hk, hx, hr, hown, hVs, hB⟩ := hrel
  have hBs := hB.size
  by_cases hlt : k < m
  ·have hk1 : (k : Int) < (x : Int) % 4 := by have := HMX.out; omega
   have hw1 : IntKind.i64.wrap (2 * (k : Int)) = 2 * (k : Int) := IntWalk.i64_in _ (by omega)
   have hw2 : IntKind.i64.wrap (2 + 2 * (k : Int)) = 2 + 2 * (k : Int) := IntWalk.i64_in _ (by omega)
   obtain ⟨A1, c1, rfl⟩ := own_form hown.out
   have k1 : wr.cell? ⟨bx, 1, none⟩ = some (.slice A1 k c1) := cell_at_heap hx.out rfl
   go_wp2_with fail
   refine plain_region (fun W' => W'.cell? ⟨bx, 1, none⟩ = some (.slice A1 k c1)) (by kernel_rfl) k1 (fun hHeld => ?_)
   (refine' anyT_tk 0 rfl ?_; (try simp only [Act.put, nY, nX])); (refine' anyT_tk 1 rfl ?_; (try simp only [Act.put, nY, nX])); (refine' anyT_tk 7 rfl ?_; (try simp only [Act.put, nY, nX])); (refine' anyT_tk 8 rfl ?_; (try simp only [Act.put, nY, nX])); (refine' anyT_tk 9 rfl ?_; (try simp only [Act.put, nY, nX])); (refine' anyT_tk 10 rfl ?_; (try simp only [Act.put, nY, nX]))
   (refine' anyT_tk 11 rfl ?_; (try simp only [Act.put, nY, nX])); (refine' anyT_tk 12 rfl ?_; (try simp only [Act.put, nY, nX]))
   obtain ⟨d, hd⟩ : ∃ d, d = x / 2 ^ (2 + 2 * k) % 4 := ⟨_, rfl⟩
   have hd4 : d < 4 := by omega
   have hix : ((x : Int) / 2 ^ (2 + 2 * (k : Int)).toNat).tmod 4 = (d : Int) := by
    rw [show (2 + 2 * (k : Int)).toNat = 2 + 2 * k by omega, Int.tmod_eq_emod_of_nonneg (Int.ediv_nonneg (by omega) (by exact_mod_cast Nat.zero_le _)), hd]
    simp
   rw [hix]
   have HL1 : Hid (L.take (k + 1) = L.take k ++ [oneS d]) := take_snoc' L k _ (by rw [HLA.out k hlt, ← hd])
   clear hix hd hk1 hw1 hw2 k1
   have HX := hI hx.out
   have HR := hI hr.out
   have HO := hI hown.out
   clear hx hr hown
   have HBd := hI (Below.refl wr.heap.size wr).drew
   have HSB : Hid (∀ W : World, Below wr.heap.size wr W → W.cell? ⟨bx, 1, none⟩ = some (.slice A1 k c1)) := fun W hb => cell_at_heap ((hb.block bx (lt_of_block HX.out)).trans HX.out) rfl
   (refine anyT_sp 2 rfl (fun K' hK' => ?_); simp only [nY]; go_simp)
   refine (exP29_c _).mono ?_
   rintro e w1 ⟨rfl, hb⟩
   have hB_ := HBd.out.trans (hb.mono HBd.out.size)
   replace HBd := hI hB_
   try clear hS
   have hS := HSB.out _ HBd.out
   refine hK' _ _ ⟨.inr hS, fun _ => ?_⟩
   clear hK' K' hB_ hb
   (try simp only [Act.put, nY, nX])
   (refine anyT_sp 3 rfl (fun K' hK' => ?_); simp only [nY]; go_simp)
   refine (exB29_c _).mono ?_
   rintro e w2 ⟨rfl, hb⟩
   have hB_ := HBd.out.trans (hb.mono HBd.out.size)
   replace HBd := hI hB_
   try clear hS
   have hS := HSB.out _ HBd.out
   refine hK' _ _ ⟨.inr hS, fun _ => ?_⟩
   clear hK' K' hB_ hb
   (try simp only [Act.put, nY, nX])
   (refine anyT_sp 4 rfl (fun K' hK' => ?_); simp only [nY]; go_simp)
   refine (exA29_c _).mono ?_
   rintro e w3 ⟨rfl, hb⟩
   have hB_ := HBd.out.trans (hb.mono HBd.out.size)
   replace HBd := hI hB_
   try clear hS
   have hS := HSB.out _ HBd.out
   refine hK' _ _ ⟨.inr hS, fun _ => ?_⟩
   clear hK' K' hB_ hb
   (try simp only [Act.put, nY, nX])
   (refine anyT_sp 5 rfl (fun K' hK' => ?_); simp only [nY]; go_simp)
   refine (exP29_c _).mono ?_
   rintro e w4 ⟨rfl, hb⟩
   have hB_ := HBd.out.trans (hb.mono HBd.out.size)
   replace HBd := hI hB_
   try clear hS
   have hS := HSB.out _ HBd.out
   refine hK' _ _ ⟨.inr hS, fun _ => ?_⟩
   clear hK' K' hB_ hb
   (try simp only [Act.put, nY, nX])
   (refine anyT_sp 6 rfl (fun K' hK' => ?_); simp only [nY]; go_simp)
   have hz := built_word w4 [sP, s29B, sA, sP] 24 (by simp)
   have hb : Below w4.heap.size w4 (w4.alloc (.cells (wcells [sP, s29B, sA, sP]).toArray 24)) := bel
   rw [show w4.alloc (.cells #[.int .u32 sP.1, .int .u32 sP.2, .int .u32 s29B.1, .int .u32 s29B.2, .int .u32 sA.1, .int .u32 sA.2, .int .u32 sP.1, .int .u32 sP.2] 24) = w4.alloc (.cells (wcells [sP, s29B, sA, sP]).toArray 24) from rfl]
   generalize w4.alloc (.cells (wcells [sP, s29B, sA, sP]).toArray 24) = w5 at *
   obtain ⟨b5, hb5⟩ : ∃ b, b = w4.heap.size := ⟨_, rfl⟩
   rw [← hb5] at hz ⊢
   clear hb5
   obtain ⟨b6, off6, p, q, hA6, hb6, hxd, hc0, hc1⟩ := hz.at_ (k := d) (by simpa using hd4)
   obtain ⟨rfl, rfl⟩ : b5 = b6 ∧ 0 = off6 := by simpa using hA6
   have hpq : oneS d = (p, q) := by
    have : d = 0 ∨ d = 1 ∨ d = 2 ∨ d = 3 := by omega
    rcases this with rfl | rfl | rfl | rfl <;> exact Option.some.inj hxd
   rw [hpq] at HL1
   rw [Nat.zero_add] at hc0 hc1
   clear hz hxd hA6 hpq
   have hB_ := HBd.out.trans (hb.mono HBd.out.size)
   replace HBd := hI hB_
   try clear hS
   have hS := HSB.out _ HBd.out
   refine hK' _ _ ⟨.inr hS, fun _ => ?_⟩
   clear hK' K' hB_ hb
   (try simp only [Act.put, nY, nX])
   have hd1 : (d : Int) < 4 := by omega
   (refine' anyT_tk 13 rfl ?_; (try simp only [Act.put, nY, nX]))
   (refine anyT_sp 14 rfl (fun K' hK' => ?_); simp only [nY]; go_simp)
   have hb : Below w5.heap.size w5 w5 := Below.refl _ _
   have hB_ := HBd.out.trans (hb.mono HBd.out.size)
   replace HBd := hI hB_
   try clear hS
   have hS := HSB.out _ HBd.out
   refine hK' _ _ ⟨.inr hS, fun _ => ?_⟩
   clear hK' K' hB_ hb
   (try simp only [Act.put, nY, nX])
   clear hc0 hc1 hS
   (refine anyT_sp 15 rfl (fun K' hK' => ?_); simp only [nY]; go_simp)
   have hb : Below w5.heap.size w5 (w5.alloc (.cells #[.int .u32 p, .int .u32 q] 24)) := bel
   have hw1 : IsWord (w5.alloc (.cells #[.int .u32 p, .int .u32 q] 24)) (some ⟨w5.heap.size, 0, none⟩) 1 1 [(p, q)] := word_one w5 p q 24
   have hB_ := HBd.out.trans (hb.mono HBd.out.size)
   replace HBd := hI hB_
   try clear hS
   have hS := HSB.out _ HBd.out
   refine hK' _ _ ⟨.inr hS, fun _ => ?_⟩
   clear hK' K' hB_ hb
   (try simp only [Act.put, nY, nX])
   generalize hV7 : (w5.alloc (.cells #[.int .u32 p, .int .u32 q] 24)) = V7 at *
   clear hV7
   refine anyT_sp 16 rfl (fun K' hK' => ?_)
   rw [if_pos (by rfl)]
   have hown7 := own_heap HO.out fun k e => HBd.out.block k (HO.out.lt k e).2
   refine wp_append_snd (.tmp 17) (.tmp 31) rfl V1.heap.size (.slice A1 k c1) k (L.take k) (by rfl) hown7 (some ⟨w5.heap.size, 0, none⟩) 1 1 [(p, q)] (by rfl) hw1 (by omega) (by have := HBd.out.size; omega) ?_
   intro v8 w8 hown8 hg8
   rw [← HL1.out] at hown8
   have hb8 : Below V1.heap.size wr w8 := own_below (HBd.out.mono hVs) hown7 hg8 rr (by have := HBd.out.size; omega)
   have hx8 := (hb8.block bx hbxV).trans HX.out
   have hr8 := (hb8.block br hbrV).trans HR.out
   obtain ⟨A9, c9, rfl⟩ := own_form hown8
   clear hS
   have m0 : w8.cell? ⟨bx, 1, none⟩ = some (.slice A1 k c1) := cell_at_heap hx8 rfl
   have m1 : w8.frozen? ⟨bx, 1, none⟩ = false := frozen_of_row w8 bx 1 _ _ hx8
   refine hK' _ _ ⟨.inr m0, fun _ => ?_⟩
   clear hK' K' hg8 hown7 hw1
   (try simp only [Act.put, nY, nX])
   (refine' anyT_tk 17 rfl ?_; (try simp only [Act.put, nY, nX]))
   (refine anyT_sp 18 rfl (fun K' hK' => ?_); simp only [nY]; go_simp)
   refine hK' _ _ ⟨.inl (by kernel_rfl), fun _ => anyT_done (by kernel_rfl) ?_ _⟩
   clear hK' K'
   have hx9 : (w8.setCell ⟨bx, 1, none⟩ (.slice A9 (k + 1) c9)).heap[bx]? = some (.cells #[.bool true, .slice A9 (k + 1) c9] 77 (0, 0)) := heap_setCell_same hx8
   have hkx : Keep (fun k => k = bx) w8 (w8.setCell ⟨bx, 1, none⟩ (.slice A9 (k + 1) c9)) := (Keep.refl (fun k => k = bx) w8).setCell (p := ⟨bx, 1, none⟩) rfl _
   have hr9 := (hkx.block br (lt_of_block hr8) (fun h3 => hbne (Eq.symm h3))).trans hr8
   have hown9 := own_heap hown8 fun e he => hkx.block e (hown8.lt e he).2 (fun h3 => by have h4 := (hown8.lt e he).1; have h5 : e = bx := h3; omega)
   have hB9 : Below w.heap.size w (w8.setCell ⟨bx, 1, none⟩ (.slice A9 (k + 1) c9)) := (hB.trans (hb8.mono (HB0.out.size))).setCell (p := ⟨bx, 1, none⟩) hbxw _
   have hVr9 : V1.heap.size ≤ (w8.setCell ⟨bx, 1, none⟩ (.slice A9 (k + 1) c9)).heap.size := by have := hb8.size; simp; omega
   have HX9 := hI hx9
   have HR9 := hI hr9
   have HO9 := hI hown9
   clear hx9 hr9 hkx hown9 hown8 hx8 hr8 m0 m1 hb8
   go_wp2
   go_roundw
   case rel => exact ⟨k + 1, _, by go_num, by omega, HX9.out, HR9.out, HO9.out, hVr9, hB9⟩
   case measure => simp [intOf]; omega
  ·have hk1 : ¬ (k : Int) < (x : Int) % 4 := by have := HMX.out; omega
   have hkm : k = m := by omega
   subst hkm
   obtain ⟨A1, c1, rfl⟩ := own_form hown.out
   have hc0 : wr.cell? ⟨bx, 0, none⟩ = some (.bool true) := cell_at_heap hx.out rfl
   have hc1 : wr.cell? ⟨bx, 1, none⟩ = some (.slice A1 k c1) := cell_at_heap hx.out rfl
   have HW : Hid (IsWord wr A1 k c1 L) := by
    have h := hown.out
    rw [List.take_of_length_le (by rw [HLN.out]; exact rr)] at h
    exact Cells.of_own h (by decide)
   have HF : Hid (∀ ad, A1 = some ad → V1.heap.size ≤ ad.block) := own_addr hown.out
   have HR := hI hr.out
   clear hr hown hx
   go_wp2_with (refine store_frm rfl (.tmp 2) (.tmp 34) rfl br true A1 k c1 rfl rfl HR.out rfl ?he)
   case he =>
    intro W g1 g2 g3
    go_wp2
    refine bodyPost_ret (results_cell_form Tryz.results67 _ _ br true A1 k c1 rfl g1) rfl ⟨A1, k, c1, by rw [HM.out], ?_, hB.trans (g2.to_below (B := w.heap.size) (fun k hk => by omega) hB.size), fun ad had => by have := HF.out ad had; have := HB0.out.size; omega⟩
    rw [HM.out]
    exact HW.out.keep g2 fun _ ad had e => by have := HF.out ad had; omega
theorem row_at_k {x k : Nat} (hk : k < 4) : (rowM x)[k]? = some (oneM (x / 2 ^ (8 * k) % 256)) := by
 unfold rowM
 rw [List.getElem?_map, List.getElem?_range hk]; rfl
theorem made_at {l : List Nat} {i x : Nat} (hi : i < 8) (h : l[i]? = some x) : (madeM l)[i]? = some (rowM x) := by
 unfold madeM
 rw [List.getElem?_map, List.getElem?_take_of_lt hi, h]; rfl
theorem made_c (A : Option Addr) (n c : Nat) (l : List Nat) (w : World) (hx : IsNums w A n c l) :
  Calls Tryz.prog 66 #[.slice A n c] w (RetPar0 w (madeM l)) := by
 have hm := hx.max
 have HLN : Hid (l.length = n) := hx.len
 have HX := hI hx; clear hx
 go_enter Tryz.func66, Tryz.ntmps66
 go_wp2_with fail
 go_loopw [3, 4] (fun v vi wr => ∃ (i : Nat) (rs : List RowR), vi = .int .i64 i ∧ i ≤ n ∧ i ≤ 8 ∧ Hid (rs.length = i) ∧ Hid (ParW wr w.heap.size v rs) ∧ Hid (rs.map RowR.l = (madeM l).take i) ∧ Below w.heap.size w wr) (fun _ vi _ => n - (intOf vi).toNat)
 case atStart => exact ⟨0, [], rfl, Nat.zero_le _, Nat.zero_le _, rfl, ParW.nil _, by simp [Hid], Below.refl _ _⟩
 case round =>
  obtain ⟨i, rs, rfl, hi, hi8, HRI, hpw, hdat, hB⟩ := hrel
  have hBs := hB.size
  by_cases hlt : i < n
  ·have hi1 : (i : Int) < (n : Int) := by omega
   by_cases hlt8 : i < 8
   ·have hi2 : (i : Int) < 8 := by omega
    obtain ⟨b, off, x, rfl, hbl, hlk, hx32, hc1⟩ := HX.out.at_ hlt
    have HC1 := hI hc1; clear hc1
    have HLK := hI (made_at hlt8 hlk); clear hlk hx32
    obtain ⟨wi, hwi⟩ : ∃ wi, wi = wr := ⟨_, rfl⟩
    rw [← hwi] at hpw hB hBs
    have HWI := hI hwi
    clear hwi
    go_wp2_with fail
    go_loopw [5, 6] (fun u vj wr => ∃ (j : Nat) (fs : List FormR), vj = .int .i64 j ∧ j ≤ 4 ∧ fs.length = j ∧ Hid (FrmW wr wi.heap.size u fs) ∧ Hid (∀ f ∈ fs, ∀ ad, f.p.1 = some ad → wi.heap.size ≤ ad.block) ∧ Hid (fs.map FormR.data = (rowM x).take j) ∧ Below wi.heap.size wi wr) (fun _ vj _ => 4 - (intOf vj).toNat)
    case atStart => exact ⟨0, [], rfl, Nat.zero_le _, rfl, by rw [← HWI.out]; exact FrmW.nil _, (fun f hf => by cases hf), by simp [Hid], by rw [← HWI.out]; exact Below.refl _ _⟩
    case round =>
     obtain ⟨j, fs, rfl, hj, hfl, hfw, hfr, hda2, hB2⟩ := hrel
     have hB2s := hB2.size
     have hBB2 := hB.trans (hB2.mono hBs)
     have hd1 := (hBB2.cell (p := ⟨b, off + i, none⟩) hbl).trans HC1.out
     by_cases hltj : j < 4
     ·have hj1 : (j : Int) < 4 := by omega
      have hw1 : IntKind.i64.wrap (8 * (j : Int)) = 8 * (j : Int) := IntWalk.i64_in _ (by omega)
      go_wp2_with fail
      obtain ⟨q, hq⟩ : ∃ q, q = x / 2 ^ (8 * j) % 256 := ⟨_, rfl⟩
      have hqi : ((x : Int) / 2 ^ (8 * j) % 256) = (q : Int) := by rw [hq]; simp
      have hrk := row_at_k (x := x) hltj
      rw [← hq] at hrk
      have HRK := hI hrk
      rw [hqi]
      have hql : q < 256 := by omega
      clear hq hqi hrk hw1 hd1
      refine (one_c q hql wr).mono ?_
      obtain ⟨fq, hfq⟩ : ∃ f, f = oneM q := ⟨_, rfl⟩
      rw [← hfq] at HRK ⊢
      obtain ⟨h, ws⟩ := fq
      clear hfq
      intro e w4 hret
      obtain ⟨A4, n4, c4, rfl, hw4, hb4, hf4⟩ : ∃ A n c, e = .returned (.agg #[.bool h, .slice A n c]) ∧ IsWord w4 A n c ws ∧ Below wr.heap.size wr w4 ∧ ∀ ad, A = some ad → wr.heap.size ≤ ad.block := hret
      have hba : Below wr.heap.size wr (w4.alloc (.cells #[.bool h, .slice A4 n4 c4] 77)) := hb4.alloc hb4.size _
      have hz2 : (w4.alloc (.cells #[.bool h, .slice A4 n4 c4] 77)).heap[w4.heap.size]? = some (.cells #[.bool h, .slice A4 n4 c4] 77 (0, 0)) := hpt
      have HFW1 := hI (hfw.out.below hba)
      have HAW : Hid (Away u5 (w4.alloc (.cells #[.bool h, .slice A4 n4 c4] 77)) (A4, n4, c4, ws)) := hfw.out.fresh (q := (A4, n4, c4, ws)) (IsWord.below hw4 ((Below.refl w4.heap.size w4).alloc rr _) rr) hf4
      have HDN : Hid ((fs ++ [(⟨h, (A4, n4, c4, ws)⟩ : FormR)]).map FormR.data = (rowM x).take (j + 1)) := by show _ = _; rw [take_snoc' (rowM x) j _ HRK.out, List.map_append, hda2.out]; rfl
      have HFR : Hid (∀ f' ∈ fs ++ [(⟨h, (A4, n4, c4, ws)⟩ : FormR)], ∀ ad, f'.p.1 = some ad → wi.heap.size ≤ ad.block) := fun f' hf' ad had => by
       rcases List.mem_append.1 hf' with h1 | h1
       ·exact hfr.out f' h1 ad had
       ·obtain rfl : f' = ⟨h, (A4, n4, c4, ws)⟩ := by simpa using h1
        exact Nat.le_trans hB2s (hf4 ad had)
      have HB6 : Hid (Below wi.heap.size wi (w4.alloc (.cells #[.bool h, .slice A4 n4 c4] 77))) := hB2.trans (hba.mono hB2s)
      have hfl' : fs.length ≤ 16 := by omega
      have HFL := hI hfl
      have HZ2 := hI hz2
      clear hba hfl hz2 hw4 hf4 hb4
      go_wp2_with (at_builtin; refine append_frm rfl (.tmp 21) (.tmp 31) rfl wi.heap.size u5 fs.length (fs.flatMap FormR.cells) rfl HFW1.out.own ⟨w4.heap.size, 0, none⟩ 1 ⟨h, (A4, n4, c4, ws)⟩ rfl (form_cells HZ2.out) ?hl ?hz ?hc)
      case hl => omega
      case hz => simpa using HB6.out.size
      case hc =>
       intro v9 X9 hown9 hg9 hat9
       have HFW9 := hI (HFW1.out.push HAW.out hown9 hg9 (by simpa using hat9))
       have hB9 : Below wi.heap.size wi X9 := own_below HB6.out HFW1.out.own hg9 rr HB6.out.size
       clear hown9 hg9 hat9
       go_wp2
       go_roundw
       case rel => exact ⟨j + 1, _, by go_num, by omega, by rw [List.length_append, HFL.out]; rfl, HFW9.out, HFR.out, HDN.out, hB9⟩
       case measure => simp [intOf]; omega
     ·have hj1 : ¬ (j : Int) < 4 := by omega
      have HDF : Hid (fs.map FormR.data = rowM x) := by show _ = _; rw [hda2.out, List.take_of_length_le (by rw [rowM_len]; omega)]
      obtain ⟨A8, c8, hv8⟩ := own_form hfw.out.own
      obtain ⟨A7, c7, hv7⟩ := own_form hpw.out.own
      subst hv8 hv7
      have haw : FAway (.slice A7 rs.length c7) wr ⟨A8, fs.length, c8, fs.map FormR.data⟩ := FrmW.away (v' := .slice A7 rs.length c7) hfw.out rfl (fun k e => (hpw.out.own.lt k e).2) (fun f hf ad had _ e => by have h1 := (hpw.out.own.lt _ e).2; have h2 := hfr.out f hf ad had; omega)
      have hb4 : Below wr.heap.size wr (wr.alloc (.cells #[.slice A8 fs.length c8] 70)) := bel
      have HFA := hI (haw.below hb4)
      have hpr : ParW wr w.heap.size (.slice A7 rs.length c7) rs := hpw.out.below hB2
      have HPW := hI (hpr.below hb4)
      have hB4 := hBB2.trans (hb4.mono hBB2.size)
      have HN : Hid ((rs ++ [(⟨A8, fs.length, c8, fs.map FormR.data⟩ : RowR)]).map RowR.l = (madeM l).take (i + 1)) := by
       show _ = _
       rw [take_snoc' (madeM l) i _ HLK.out, List.map_append, hdat.out]
       show _ ++ [fs.map FormR.data] = _
       rw [HDF.out]
      have hri : rs.length ≤ 70 := by have := HRI.out; omega
      have HFL := hI hfl
      clear haw hpr hfl
      go_wp2_with (at_builtin; refine append_fms rfl (.tmp 33) (.tmp 35) rfl w.heap.size (.slice A7 rs.length c7) rs.length (rs.map RowR.val) rfl HPW.out.own ⟨wr.heap.size, 0, none⟩ 1 (.slice A8 fs.length c8) rfl (cell_one_new _ _ _) rfl ?hl ?hz ?hc)
      case hl => omega
      case hz => simpa using hB4.size
      case hc =>
       intro v' w9 hown9 hg9 hat9
       have HP9 := hI (HPW.out.push HFA.out hown9 hg9 (by simpa using hat9))
       have hB9 : Below w.heap.size w w9 := own_below hB4 HPW.out.own hg9 rr hB4.size
       clear hown9 hg9 hat9
       go_wp2
       go_roundw
       case rel => exact ⟨i + 1, _, by go_num, by omega, by omega, by show _ = _; rw [List.length_append, HRI.out]; rfl, HP9.out, HN.out, hB9⟩
       case measure => simp [intOf]; omega
   ·have hi2 : ¬ (i : Int) < 8 := by omega
    obtain ⟨A8, c8, hv8⟩ := own_form hpw.out.own
    subst hv8
    have hip := hpw.out.par rfl
    have HD : Hid (rs.map RowR.l = madeM l) := by show _ = _; rw [hdat.out, List.take_of_length_le (by rw [madeM, List.length_map, List.length_take, HLN.out]; omega)]
    rw [HD.out] at hip
    have HIP := hI hip; clear hip
    go_wp2
    go_ret
    exact ⟨A8, _, c8, rfl, HIP.out, hB⟩
  ·have hi1 : ¬ (i : Int) < (n : Int) := by omega
   obtain ⟨A8, c8, hv8⟩ := own_form hpw.out.own
   subst hv8
   have hip := hpw.out.par rfl
   have HD : Hid (rs.map RowR.l = madeM l) := by show _ = _; rw [hdat.out, List.take_of_length_le (by rw [madeM, List.length_map, List.length_take, HLN.out]; omega)]
   rw [HD.out] at hip
   have HIP := hI hip; clear hip
   go_wp2
   go_ret
   exact ⟨A8, _, c8, rfl, HIP.out, hB⟩
end Go.Proofs.YtcpcojgmmpnkoaaGreatDoor

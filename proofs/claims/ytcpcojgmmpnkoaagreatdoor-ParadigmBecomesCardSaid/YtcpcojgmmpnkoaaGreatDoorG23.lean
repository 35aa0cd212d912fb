/-
  ablautref01: Valid, Get, Satisfies.
  ablautref01: put, Change, Take.
  ablautref02: Valid, Check, Copy.
-/
import Derived.Test.YtcpcojgmmpnkoaaGreatDoorG21
set_option linter.all false
set_option maxRecDepth 100000
set_option maxHeartbeats 4000000
namespace Go.Proofs.YtcpcojgmmpnkoaaGreatDoor
open Go.RowKit Go.Shelf
def U32 (x : Int) : Prop := 0 ≤ x ∧ x ≤ 4294967295
theorem U32.nat {x : Int} (h : U32 x) : ∃ n : Nat, x = n ∧ n < 4294967296 := ⟨x.toNat, by have := h.1; omega, by have := h.2; omega⟩
theorem bv_of_nat (n : Nat) (h : n < 4294967296) : (bv (n : Int)).toNat = n := by
 unfold bv
 rw [BitVec.ofInt_natCast, BitVec.toNat_ofNat, Nat.mod_eq_of_lt (by omega)]
def toI (x : BitVec 32) : Int := (x.toNat : Int)
theorem toI_u32 (x : BitVec 32) : U32 (toI x) := ⟨by unfold toI; omega, by have := x.isLt; unfold toI; omega⟩
theorem bv_toI (x : BitVec 32) : bv (toI x) = x := bv_nat x
theorem toI_bv {x : Int} (h : U32 x) : toI (bv x) = x := by
 obtain ⟨n, rfl, hn⟩ := h.nat
 unfold toI; rw [bv_of_nat n hn]
theorem bit_u32 {x : Int} (h : U32 x) (f : Nat) (hf : f < 32) : (bits .and .u32 (x / 2 ^ f) 1 == 1) = (bv x).getLsbD f := by
 obtain ⟨n, rfl, hn⟩ := h.nat
 have e1 : ((n : Int) / 2 ^ f) = ((n / 2 ^ f : Nat) : Int) := by
  rw [Int.natCast_ediv]; simp
 have hq : n / 2 ^ f < 4294967296 := Nat.lt_of_le_of_lt (Nat.div_le_self _ _) hn
 rw [e1, and_bv, BitVec.toNat_and, bv_of_nat _ hq, show bv 1 = 1#32 from rfl, BitVec.toNat_ofNat, show 1 % 2 ^ 32 = 1 from rfl, Nat.and_one_is_mod, ← BitVec.testBit_toNat, bv_of_nat n hn, Nat.testBit_eq_decide_div_mod_eq]
 generalize n / 2 ^ f = q
 have h4 : q % 2 = 0 ∨ q % 2 = 1 := by omega
 rcases h4 with h4 | h4 <;> rw [h4] <;> rfl
def okAt (p m : Int) (i : Nat) : Bool := !((bv p).getLsbD i && (bv m).getLsbD i) && (decide (i < 24) || !((bv p).getLsbD i || (bv m).getLsbD i))
theorem fvalid_all {p m : Int} (h : ∀ i, i < 32 → okAt p m i = true) : fvalid p m = true := by
 rw [fvalid_iff]
 intro i
 by_cases hi : i < 32
 ·have h1 := h i hi
  unfold okAt at h1
  revert h1
  cases (bv p).getLsbD i <;> cases (bv m).getLsbD i <;> simp <;> omega
 ·rw [BitVec.getLsbD_of_ge _ _ (by omega), BitVec.getLsbD_of_ge _ _ (by omega)]
  exact ⟨rfl, fun _ => ⟨rfl, rfl⟩⟩
theorem fvalid_not {p m : Int} {i : Nat} (h : okAt p m i = false) : fvalid p m = false := by
 cases hv : fvalid p m
 ·rfl
 ·have h1 := (fvalid_iff p m).1 hv i
  unfold okAt at h
  obtain ⟨h2, h3⟩ := h1
  by_cases hi : i < 24
  ·rw [h2, decide_eq_true hi] at h; simp at h
  ·obtain ⟨h4, h5⟩ := h3 (by omega)
   rw [h4, h5] at h; simp at h
theorem r1Valid_c (p m : Int) (w : World) (hp : U32 p) (hm : U32 m) :
  Calls Tryz.prog 123 #[sndV p m] w fun e w' => e = .returned (.bool (fvalid p m)) ∧ Below w.heap.size w w' := by
 have HP := hI hp; clear hp
 have HM := hI hm; clear hm
 go_enter Tryz.func123, Tryz.ntmps123
 go_wp2
 go_loop [3] (fun i => ∃ f : Nat, f ≤ 32 ∧ i = .int .i64 f ∧ Hid (∀ i, i < f → okAt p m i = true)) (fun i => 32 - (intOf i).toNat)
 case atStart => exact ⟨0, by omega, rfl, fun i hi => by omega⟩
 case round =>
  obtain ⟨f, hf, rfl, hall⟩ := hrel
  by_cases hlt : f < 32
  ·have h1 := bit_u32 HP.out f hlt
   have h2 := bit_u32 HM.out f hlt
   have HK : Hid (okAt p m f = (!((bv p).getLsbD f && (bv m).getLsbD f) && (decide (f < 24) || !((bv p).getLsbD f || (bv m).getLsbD f)))) := rfl
   generalize (bv p).getLsbD f = d1 at *
   generalize (bv m).getLsbD f = d2 at *
   by_cases h24 : f < 24
   ·cases d1
    ·cases d2
     ·have HG : Hid (∀ i, i < f + 1 → okAt p m i = true) := by
       intro i hi
       rcases Nat.lt_or_ge i f with h | h
       ·exact hall.out i h
       ·obtain rfl : i = f := by omega
        rw [HK.out]; simp [h24]
      go_wp2
      go_round
      case rel => exact ⟨f + 1, by omega, by go_num, HG⟩
      case measure => simp [intOf]; omega
     ·have HG : Hid (∀ i, i < f + 1 → okAt p m i = true) := by
       intro i hi
       rcases Nat.lt_or_ge i f with h | h
       ·exact hall.out i h
       ·obtain rfl : i = f := by omega
        rw [HK.out]; simp [h24]
      go_wp2
      go_round
      case rel => exact ⟨f + 1, by omega, by go_num, HG⟩
      case measure => simp [intOf]; omega
    ·cases d2
     ·have HG : Hid (∀ i, i < f + 1 → okAt p m i = true) := by
       intro i hi
       rcases Nat.lt_or_ge i f with h | h
       ·exact hall.out i h
       ·obtain rfl : i = f := by omega
        rw [HK.out]; simp [h24]
      go_wp2
      go_round
      case rel => exact ⟨f + 1, by omega, by go_num, HG⟩
      case measure => simp [intOf]; omega
     ·have hf := fvalid_not (p := p) (m := m) (i := f) (by rw [HK.out]; simp [h24])
      have HF := hI hf; clear hf
      go_wp2
      go_ret
      exact ⟨by rw [HF.out]; rfl, bel⟩
   ·cases d1
    ·cases d2
     ·have HG : Hid (∀ i, i < f + 1 → okAt p m i = true) := by
       intro i hi
       rcases Nat.lt_or_ge i f with h | h
       ·exact hall.out i h
       ·obtain rfl : i = f := by omega
        rw [HK.out]; simp [h24]
      go_wp2
      go_round
      case rel => exact ⟨f + 1, by omega, by go_num, HG⟩
      case measure => simp [intOf]; omega
     ·have hf := fvalid_not (p := p) (m := m) (i := f) (by rw [HK.out]; simp [h24])
      have HF := hI hf; clear hf
      go_wp2
      go_ret
      exact ⟨by rw [HF.out]; rfl, bel⟩
    ·cases d2
     ·have hf := fvalid_not (p := p) (m := m) (i := f) (by rw [HK.out]; simp [h24])
      have HF := hI hf; clear hf
      go_wp2
      go_ret
      exact ⟨by rw [HF.out]; rfl, bel⟩
     ·have hf := fvalid_not (p := p) (m := m) (i := f) (by rw [HK.out]; simp [h24])
      have HF := hI hf; clear hf
      go_wp2
      go_ret
      exact ⟨by rw [HF.out]; rfl, bel⟩
  ·obtain rfl : f = 32 := by omega
   have hf := fvalid_all hall.out
   have HF := hI hf; clear hf
   go_wp2
   go_ret
   exact ⟨by rw [HF.out]; rfl, bel⟩
def getM (p m : Int) (f : Nat) : Int := if (bv p).getLsbD f then 1 else if (bv m).getLsbD f then -1 else 0
theorem r1Feature_c (f : Nat) (w : World) (hf : f < 24) : Calls Tryz.prog 180 #[.int .i64 f] w fun e w' => e = .returned (.bool true) ∧ w' = w := by
 have h1 : decide ((0 : Int) ≤ f) = true := decide_eq_true (by omega)
 have h2 : decide ((f : Int) < 24) = true := decide_eq_true (by omega)
 go_enter Tryz.func180, Tryz.ntmps180
 go_wp2
 go_ret
 exact ⟨rfl, rfl⟩
theorem r1Get_c (p m : Int) (f : Nat) (w : World) (hp : U32 p) (hm : U32 m) (hv : fvalid p m = true) (hf : f < 24) :
  Calls Tryz.prog 161 #[sndV p m, .int .i64 f] w fun e w' => e = .returned (.int .i64 (getM p m f)) ∧ Below w.heap.size w w' := by
 have h1 := bit_u32 hp f (by omega)
 have h2 := bit_u32 hm f (by omega)
 have HG : Hid (getM p m f = if (bv p).getLsbD f then 1 else if (bv m).getLsbD f then -1 else 0) := rfl
 have HP := hI hp; clear hp
 have HM := hI hm; clear hm
 have HV := hI hv; clear hv
 generalize (bv p).getLsbD f = d1 at *
 generalize (bv m).getLsbD f = d2 at *
 go_enter Tryz.func161, Tryz.ntmps161
 go_wp2_with fail
 refine (r1Valid_c p m _ HP.out HM.out).mono ?_
 rintro e w1 ⟨rfl, hb1⟩
 rw [HV.out]
 have hs1 := hb1.size
 simp only [World.size_alloc] at hs1
 have hc0 := (hb1.cell (p := ⟨w.heap.size, 0, none⟩) (by simp)).trans (cell_new_at (v := .int .u32 p) rfl)
 have hc1 := (hb1.cell (p := ⟨w.heap.size, 1, none⟩) (by simp)).trans (cell_new_at (v := .int .u32 m) rfl)
 have hB1 : Below w.heap.size w w1 := Below.step (by assumption) (by simp) bel
 clear hb1
 go_wp2_with fail
 refine (r1Feature_c f w1 hf).mono ?_
 rintro e w2 ⟨rfl, rfl⟩
 cases d1
 ·cases d2
  ·go_wp2
   go_ret
   exact ⟨by rw [HG.out]; rfl, hB1⟩
  ·go_wp2
   go_ret
   exact ⟨by rw [HG.out]; rfl, hB1⟩
 ·go_wp2
  go_ret
  exact ⟨by rw [HG.out]; rfl, hB1⟩
theorem sat_all {p m p' m' : Int} (hv : fvalid p m = true) (hv' : fvalid p' m' = true) (h : ∀ f, f < 24 → getM p' m' f = 0 ∨ getM p m f = getM p' m' f) : fsat p m p' m' = true := by
 have o := (fvalid_iff p m).1 hv
 have o' := (fvalid_iff p' m').1 hv'
 unfold fsat
 rw [hv, hv', andNot_bv, andNot_bv]
 have h1 : ((bv p' &&& ~~~ bv p).toNat : Int) = 0 := by
  rw [zero_iff]
  intro i
  rw [BitVec.getLsbD_and, BitVec.getLsbD_not]
  by_cases hi : i < 24
  ·have h2 := h i hi
   unfold getM at h2
   cases hp' : (bv p').getLsbD i
   ·rfl
   ·rw [hp', if_pos rfl] at h2
    cases hp : (bv p).getLsbD i
    ·rw [hp, if_neg (by decide)] at h2
     split at h2 <;> omega
    ·simp
  ·rw [((o' i).2 (by omega)).1]; rfl
 have h3 : ((bv m' &&& ~~~ bv m).toNat : Int) = 0 := by
  rw [zero_iff]
  intro i
  rw [BitVec.getLsbD_and, BitVec.getLsbD_not]
  by_cases hi : i < 24
  ·have h2 := h i hi
   unfold getM at h2
   cases hm' : (bv m').getLsbD i
   ·rfl
   ·have h4 : (bv p').getLsbD i = false := by have := (o' i).1; rw [hm'] at this; simpa using this
    rw [h4, hm', if_neg (by decide), if_pos rfl] at h2
    cases hm : (bv m).getLsbD i
    ·rw [hm] at h2
     split at h2
     ·omega
     ·rw [if_neg (by decide)] at h2; omega
    ·simp
  ·rw [((o' i).2 (by omega)).2]; rfl
 rw [h1, h3]; rfl
theorem sat_not {p m p' m' : Int} {f : Nat} (hv : fvalid p m = true) (h0 : getM p' m' f ≠ 0) (h1 : getM p m f ≠ getM p' m' f) : fsat p m p' m' = false := by
 have o := (fvalid_iff p m).1 hv
 cases hs : fsat p m p' m'
 ·rfl
 ·unfold fsat at hs
  rw [andNot_bv, andNot_bv] at hs
  simp only [Bool.and_eq_true, beq_iff_eq] at hs
  obtain ⟨⟨_, h2⟩, h3⟩ := hs
  rw [zero_iff] at h2 h3
  have a := h2 f
  have b := h3 f
  rw [BitVec.getLsbD_and, BitVec.getLsbD_not] at a b
  have c := (o f).1
  by_cases hf : f < 32
  ·unfold getM at h0 h1
   revert a b c h0 h1
   cases (bv p).getLsbD f <;> cases (bv m).getLsbD f <;> cases (bv p').getLsbD f <;> cases (bv m').getLsbD f <;> simp [hf]
  ·unfold getM at h0
   rw [BitVec.getLsbD_of_ge _ _ (by omega), BitVec.getLsbD_of_ge _ _ (by omega)] at h0
   simp at h0
theorem r1Sat_c (p m p' m' : Int) (w : World) (hp : U32 p) (hm : U32 m) (hp' : U32 p') (hm' : U32 m') :
  Calls Tryz.prog 124 #[sndV p m, sndV p' m'] w fun e w' => e = .returned (.bool (fsat p m p' m')) ∧ Below w.heap.size w w' := by
 have HP := hI hp; clear hp
 have HM := hI hm; clear hm
 have HP' := hI hp'; clear hp'
 have HM' := hI hm'; clear hm'
 go_enter Tryz.func124, Tryz.ntmps124
 go_wp2_with fail
 refine (r1Valid_c p m _ HP.out HM.out).mono ?_
 rintro e w1 ⟨rfl, hb1⟩
 have hs1 := hb1.size
 simp only [World.size_alloc] at hs1
 have hc0 := (hb1.cell (p := ⟨w.heap.size, 0, none⟩) (by simp; omega)).trans (show _ = some (.int .u32 p) by rw [cell_new_block (by simp)]; exact cell_new_at rfl)
 have hc1 := (hb1.cell (p := ⟨w.heap.size, 1, none⟩) (by simp; omega)).trans (show _ = some (.int .u32 m) by rw [cell_new_block (by simp)]; exact cell_new_at rfl)
 have hd0 := (hb1.cell (p := ⟨w.heap.size + 1, 0, none⟩) (by simp)).trans (show _ = some (.int .u32 p') by rw [show w.heap.size + 1 = (w.alloc (.cells #[.int .u32 p, .int .u32 m] 24)).heap.size by simp]; exact cell_new_at rfl)
 have hd1 := (hb1.cell (p := ⟨w.heap.size + 1, 1, none⟩) (by simp)).trans (show _ = some (.int .u32 m') by rw [show w.heap.size + 1 = (w.alloc (.cells #[.int .u32 p, .int .u32 m] 24)).heap.size by simp]; exact cell_new_at rfl)
 have hB1 : Below w.heap.size w w1 := Below.step (by assumption) (by simp; omega) bel
 clear hb1
 obtain ⟨v1, hv1⟩ : ∃ v1, v1 = fvalid p m := ⟨_, rfl⟩
 rw [← hv1]
 cases v1
 ·have hf : fsat p m p' m' = false := by unfold fsat; rw [← hv1]; rfl
  have HF := hI hf; clear hf hv1
  go_wp2
  go_ret
  exact ⟨by rw [HF.out]; rfl, hB1⟩
 have HV1 := hI hv1; clear hv1
 go_wp2_with fail
 refine (r1Valid_c p' m' _ HP'.out HM'.out).mono ?_
 rintro e w2 ⟨rfl, hb2⟩
 have hs2 := hb2.size
 have hc0' := (hb2.cell (p := ⟨w.heap.size, 0, none⟩) (by show w.heap.size < _; omega)).trans hc0
 have hc1' := (hb2.cell (p := ⟨w.heap.size, 1, none⟩) (by show w.heap.size < _; omega)).trans hc1
 have hd0' := (hb2.cell (p := ⟨w.heap.size + 1, 0, none⟩) (by show w.heap.size + 1 < _; omega)).trans hd0
 have hd1' := (hb2.cell (p := ⟨w.heap.size + 1, 1, none⟩) (by show w.heap.size + 1 < _; omega)).trans hd1
 have hB2 := hB1.trans (hb2.mono hB1.size)
 clear hb2 hc0 hc1 hd0 hd1
 obtain ⟨v2, hv2⟩ : ∃ v2, v2 = fvalid p' m' := ⟨_, rfl⟩
 rw [← hv2]
 cases v2
 ·have hf : fsat p m p' m' = false := by unfold fsat; rw [← hv2, ← HV1.out]; rfl
  have HF := hI hf; clear hf hv2
  go_wp2
  go_ret
  exact ⟨by rw [HF.out]; rfl, hB2⟩
 have HV2 := hI hv2; clear hv2
 have HC0 := hI hc0'; have HC1 := hI hc1'; have HD0 := hI hd0'; have HD1 := hI hd1'
 clear hc0' hc1' hd0' hd1'
 go_wp2
 go_loopw [5] (fun i wr => ∃ f : Nat, f ≤ 24 ∧ i = .int .i64 f ∧ Hid (∀ j, j < f → getM p' m' j = 0 ∨ getM p m j = getM p' m' j) ∧ Below w2.heap.size w2 wr) (fun i _ => 24 - (intOf i).toNat)
 case atStart => exact ⟨0, by omega, rfl, fun i hi => by omega, Below.refl _ _⟩
 case round =>
  obtain ⟨f, hf, rfl, hall, hB⟩ := hrel
  have hBs := hB.size
  have hc0 := (hB.cell (p := ⟨w.heap.size, 0, none⟩) (by show w.heap.size < _; omega)).trans HC0.out
  have hc1 := (hB.cell (p := ⟨w.heap.size, 1, none⟩) (by show w.heap.size < _; omega)).trans HC1.out
  have hd0 := (hB.cell (p := ⟨w.heap.size + 1, 0, none⟩) (by show w.heap.size + 1 < _; omega)).trans HD0.out
  have hd1 := (hB.cell (p := ⟨w.heap.size + 1, 1, none⟩) (by show w.heap.size + 1 < _; omega)).trans HD1.out
  by_cases hlt : f < 24
  ·have hlt' : (f : Int) < 24 := by omega
   go_wp2_with fail
   refine (r1Get_c p' m' f wr HP'.out HM'.out HV2.out.symm hlt).mono ?_
   rintro e w3 ⟨rfl, hb3⟩
   have hs3 := hb3.size
   have hc0' := (hb3.cell (p := ⟨w.heap.size, 0, none⟩) (by show w.heap.size < _; omega)).trans hc0
   have hc1' := (hb3.cell (p := ⟨w.heap.size, 1, none⟩) (by show w.heap.size < _; omega)).trans hc1
   have hB3 := hB.trans (hb3.mono hBs)
   clear hb3 hc0 hc1 hd0 hd1
   obtain ⟨g, hg⟩ : ∃ g, g = getM p' m' f := ⟨_, rfl⟩
   rw [← hg]
   by_cases h0 : g = 0
   ·have HG : Hid (∀ j, j < f + 1 → getM p' m' j = 0 ∨ getM p m j = getM p' m' j) := by
     intro j hj
     rcases Nat.lt_or_ge j f with h | h
     ·exact hall.out j h
     ·obtain rfl : j = f := by omega
      exact .inl (hg.symm.trans h0)
    clear hg
    subst h0
    go_wp2
    go_roundw
    case rel => exact ⟨f + 1, by omega, by go_num, HG, hB3⟩
    case measure => simp [intOf]; omega
   ·have h0' : (g != 0) = true := by simpa using h0
    have HG0 := hI h0; clear h0
    have HGG := hI hg; clear hg
    go_wp2_with fail
    refine (r1Get_c p m f w3 HP.out HM.out HV1.out.symm hlt).mono ?_
    rintro e w4 ⟨rfl, hb4⟩
    have hB4 := hB3.trans (hb4.mono hB3.size)
    clear hb4 hc0' hc1'
    obtain ⟨k, hk⟩ : ∃ k, k = getM p m f := ⟨_, rfl⟩
    rw [← hk]
    by_cases h1 : k = g
    ·have HG : Hid (∀ j, j < f + 1 → getM p' m' j = 0 ∨ getM p m j = getM p' m' j) := by
      intro j hj
      rcases Nat.lt_or_ge j f with h | h
      ·exact hall.out j h
      ·obtain rfl : j = f := by omega
       exact .inr (hk.symm.trans (h1.trans HGG.out))
     clear hk
     subst h1
     have h2 : (k != k) = false := by simp
     go_wp2
     go_roundw
     case rel => exact ⟨f + 1, by omega, by go_num, HG, hB4⟩
     case measure => simp [intOf]; omega
    ·have hf : fsat p m p' m' = false := sat_not (f := f) HV1.out.symm (by rw [← HGG.out]; exact HG0.out) (by rw [← hk, ← HGG.out]; exact h1)
     have HF := hI hf; clear hf hk
     have h2 : (k != g) = true := by simpa using h1
     clear h1
     go_wp2
     go_ret
     exact ⟨by rw [HF.out]; rfl, hB2.trans (hB4.mono hB2.size)⟩
  ·obtain rfl : f = 24 := by omega
   have hf := sat_all HV1.out.symm HV2.out.symm hall.out
   have HF := hI hf; clear hf hc0 hc1 hd0 hd1
   go_wp2
   go_ret
   exact ⟨by rw [HF.out]; rfl, hB2.trans (hB.mono hB2.size)⟩
def putP (p : Int) (f : Nat) (on : Bool) : Int := if on then bits .or .u32 (bits .andNot .u32 p (2 ^ f % 4294967296)) (2 ^ f % 4294967296) else bits .andNot .u32 p (2 ^ f % 4294967296)
theorem r1Put_c (p m : Int) (f : Nat) (v : Int) (w : World) (hf : f < 24) :
  Calls Tryz.prog 234 #[sndV p m, .int .i64 f, .int .i64 v] w fun e w' => e = .returned (sndV (putP p f (v == 1)) (putP m f (v == -1))) ∧ Below w.heap.size w w' := by
 by_cases h1 : v = 1
 ·subst h1
  go_enter Tryz.func234, Tryz.ntmps234
  go_wp2
  exact bodyPost_ret (v := sndV (putP p f true) (putP m f false)) (by simp [results, Tryz.results234, go_sem, putP]) rfl ⟨rfl, bel⟩
 ·by_cases h2 : v = -1
  ·subst h2
   go_enter Tryz.func234, Tryz.ntmps234
   go_wp2
   exact bodyPost_ret (v := sndV (putP p f false) (putP m f true)) (by simp [results, Tryz.results234, go_sem, putP]) rfl ⟨rfl, bel⟩
  ·have h1' : (v == 1) = false := by simpa using h1
   have h2' : (v == -1) = false := by simpa using h2
   rw [h1', h2']
   clear h1 h2
   go_enter Tryz.func234, Tryz.ntmps234
   go_wp2
   exact bodyPost_ret (v := sndV (putP p f false) (putP m f false)) (by simp [results, Tryz.results234, go_sem, putP]) rfl ⟨rfl, bel⟩
theorem bv_pow (f : Nat) (hf : f < 32) (i : Nat) : (bv (2 ^ f % 4294967296)).getLsbD i = decide (i = f) := by
 have e : ((2 : Int) ^ f % 4294967296) = ((2 ^ f : Nat) : Int) := by
  have h1 : 2 ^ f ≤ 2 ^ 31 := Nat.pow_le_pow_right (by decide) (by omega)
  have h2 : (2 : Nat) ^ 31 = 2147483648 := by decide
  have h3 : ((2 : Int) ^ f) = ((2 ^ f : Nat) : Int) := by simp
  rw [h3]
  generalize 2 ^ f = q at *
  omega
 rw [e, ← BitVec.testBit_toNat, bv_of_nat _ (by
  have h1 : 2 ^ f ≤ 2 ^ 31 := Nat.pow_le_pow_right (by decide) (by omega)
  have h2 : (2 : Nat) ^ 31 = 2147483648 := by decide
  omega), Nat.testBit_two_pow]
 exact decide_eq_decide.2 ⟨Eq.symm, Eq.symm⟩
theorem putP_bit (p : Int) (f : Nat) (hf : f < 32) (on : Bool) (i : Nat) : (bv (putP p f on)).getLsbD i = if i = f then on else (bv p).getLsbD i := by
 unfold putP
 have hb := bv_pow f hf i
 cases on
 ·rw [if_neg (by decide), andNot_bv, bv_nat, BitVec.getLsbD_and, BitVec.getLsbD_not, hb]
  by_cases h : i = f
  ·simp [h]
  ·by_cases hi : i < 32
   ·simp [h, hi]
   ·rw [BitVec.getLsbD_of_ge (bv p) i (by omega)]; simp [h]
 ·rw [if_pos rfl, or_bv, bv_nat, andNot_bv, bv_nat, BitVec.getLsbD_or, BitVec.getLsbD_and, BitVec.getLsbD_not, hb]
  by_cases h : i = f
  ·simp [h]
  ·by_cases hi : i < 32
   ·simp [h, hi]
   ·rw [BitVec.getLsbD_of_ge (bv p) i (by omega)]; simp [h]
theorem putP_u32 (p : Int) (f : Nat) (on : Bool) : U32 (putP p f on) := by
 unfold putP
 split
 ·rw [or_bv]; exact toI_u32 _
 ·rw [andNot_bv]; exact toI_u32 _
theorem mixI_toI (s f set : Int) : mixI s f set = toI (bv (mixI s f set)) := by
 have : mixI s f set = toI ((bv (bits .andNot .u32 s set)) ||| (bv (bits .and .u32 f set))) := or_bv _ _
 rw [this, bv_toI]
theorem mix_bit (s f set : Int) (i : Nat) : (bv (mixI s f set)).getLsbD i = if (bv set).getLsbD i then (bv f).getLsbD i else (bv s).getLsbD i := by
 rw [mix_bv, BitVec.getLsbD_or, BitVec.getLsbD_and, BitVec.getLsbD_and, BitVec.getLsbD_not]
 by_cases hi : i < 32
 ·cases (bv set).getLsbD i <;> simp [hi]
 ·rw [BitVec.getLsbD_of_ge (bv s) i (by omega), BitVec.getLsbD_of_ge (bv f) i (by omega)]; simp
def Upto (s t : Int) (set : Int) (f : Nat) (x : Int) : Prop := U32 x ∧ ∀ i, (bv x).getLsbD i = if i < f then (bv (mixI s t set)).getLsbD i else (bv s).getLsbD i
theorem Upto.start {s t set : Int} (h : U32 s) : Upto s t set 0 s := ⟨h, fun i => by rw [if_neg (by omega)]⟩
theorem Upto.done {s t set x : Int} (h : Upto s t set 24 x) (hs : ∀ i, 24 ≤ i → (bv set).getLsbD i = false) : x = mixI s t set := by
 rw [mixI_toI, ← toI_bv h.1]
 congr 1
 refine BitVec.eq_of_getLsbD_eq fun i hi => ?_
 rw [h.2 i]
 by_cases h24 : i < 24
 ·rw [if_pos h24]
 ·rw [if_neg h24, mix_bit, hs i (by omega), if_neg (by decide)]
theorem Upto.put {s t set x : Int} {f : Nat} (h : Upto s t set f x) (hf : f < 32) {on : Bool} (hs : (bv set).getLsbD f = true) (ho : (bv t).getLsbD f = on) : Upto s t set (f + 1) (putP x f on) := by
 refine ⟨putP_u32 _ _ _, fun i => ?_⟩
 rw [putP_bit x f hf on i]
 by_cases h1 : i = f
 ·subst h1
  rw [if_pos rfl, if_pos (by omega), mix_bit, hs, if_pos rfl, ho]
 ·rw [if_neg h1, h.2 i]
  by_cases h2 : i < f
  ·rw [if_pos h2, if_pos (by omega)]
  ·rw [if_neg h2, if_neg (by omega)]
theorem Upto.skip {s t set x : Int} {f : Nat} (h : Upto s t set f x) (hs : (bv set).getLsbD f = false) : Upto s t set (f + 1) x := by
 refine ⟨h.1, fun i => ?_⟩
 rw [h.2 i]
 by_cases h1 : i = f
 ·subst h1
  rw [if_neg (by omega), if_pos (by omega), mix_bit, hs, if_neg (by decide)]
 ·by_cases h2 : i < f
  ·rw [if_pos h2, if_pos (by omega)]
  ·rw [if_neg h2, if_neg (by omega)]
theorem get_plus {p m : Int} {f : Nat} : (getM p m f == 1) = (bv p).getLsbD f := by
 unfold getM
 cases (bv p).getLsbD f <;> cases (bv m).getLsbD f <;> rfl
theorem get_minus {p m : Int} {f : Nat} (hv : fvalid p m = true) : (getM p m f == -1) = (bv m).getLsbD f := by
 have o := ((fvalid_iff p m).1 hv f).1
 revert o
 unfold getM
 cases (bv p).getLsbD f <;> cases (bv m).getLsbD f <;> simp
theorem get_none {p m : Int} {f : Nat} : (getM p m f = 0) ↔ (bv p).getLsbD f = false ∧ (bv m).getLsbD f = false := by
 unfold getM
 cases (bv p).getLsbD f <;> cases (bv m).getLsbD f <;> simp
theorem snd_size : (Tryz.prog.info? 24).map (·.size) = some 2 := by kernel_rfl
theorem run_load_snd {w : World} {b : Nat} {x y : Int} {t : TypeId} {fr : Nat × Nat} (h : w.heap[b]? = some (.cells #[.int .u32 x, .int .u32 y] t fr)) : (loadVar 24 ⟨b, 0, none⟩).run Tryz.prog w = .ok (sndV x y) w :=
 run_loadVar_row w b t 24 #[.int .u32 x, .int .u32 y] fr _ h Tryz.underlying24 rfl snd_size
theorem wp_store_snd {o : Oper} {a : Act} {w : World} {K : Act → World → Prop} {Q : Exit → Act → World → Prop} (x y : Operand) (ho : o.op = .store 24 x y)
  (b : Nat) (p m : Int) (hx : a.eval x = .pointer (some ⟨b, 0, none⟩)) (hy : a.eval y = sndV p m) {p0 m0 : Value} {t : TypeId} (hr : w.heap[b]? = some (.cells #[p0, m0] t (0, 0)))
  (h : ∀ W, W.heap[b]? = some (.cells #[.int .u32 p, .int .u32 m] t (0, 0)) → Keep (fun k => k = b) w W → W.heap.size = w.heap.size → K (a.put o.dst undef) W) : o.wp Tryz.prog a w K Q :=
 wp_store_row 24 x y ho b #[.int .u32 p, .int .u32 m] hx hy t _ hr snd_size rfl (by simp [Value.oneCell'])
  (h _ (setRow_heap w b _ _ t _ hr) ⟨rfl, rfl, rfl, by simp [World.setRow], fun k _ hk => setRow_other w b k _ hk⟩ (by simp [World.setRow]))
theorem wpList_store_snd {ops : Array Oper} {rest : List Oper} {o : Oper} {a : Act} {w : World} {Q : Exit → Act → World → Prop} (hgd : o.guard = none) (x y : Operand) (ho : o.op = .store 24 x y)
  (b : Nat) (p m : Int) (hx : a.eval x = .pointer (some ⟨b, 0, none⟩)) (hy : a.eval y = sndV p m) {p0 m0 : Value} {t : TypeId} (hr : w.heap[b]? = some (.cells #[p0, m0] t (0, 0)))
  (h : ∀ W, W.heap[b]? = some (.cells #[.int .u32 p, .int .u32 m] t (0, 0)) → Keep (fun k => k = b) w W → W.heap.size = w.heap.size → wpList Tryz.prog ops Q rest (a.put o.dst undef) W) : wpList Tryz.prog ops Q (o :: rest) a w :=
 wpList_plain hgd fun _ hK => wp_store_snd x y ho b p m hx hy hr fun W h1 h2 h3 => hK _ _ (h W h1 h2 h3)
theorem results_snd_tmp {fn : Func} {p q : Tmp} (h : fn.results = #[.cell p 24, .tmp q]) (tmps : Array Value) (w : World) (b : Nat) (x y : Int) (v : Value) {t : TypeId} {fr : Nat × Nat} (hp : tmps.getD p undef = .pointer (some ⟨b, 0, none⟩)) (hq : tmps.getD q undef = v) (hr : w.heap[b]? = some (.cells #[.int .u32 x, .int .u32 y] t fr)) :
  (results fn tmps).run Tryz.prog w = .ok (.tuple #[sndV x y, v]) w := by
 have hp' : tmps[p]?.getD undef = .pointer (some ⟨b, 0, none⟩) := by simpa using hp
 have hq' : tmps[q]?.getD undef = v := by simpa using hq
 have hl := run_load_snd hr
 simp [results, h, hp', hq', asAddr, hl]
theorem r1Take_c (p m p' m' mask : Int) (w : World) (hp : U32 p) (hm : U32 m) (hp' : U32 p') (hm' : U32 m') (hk : U32 mask) (h1 : fvalid p m = true) (h2 : fvalid p' m' = true) (h3 : mask ≤ 16777215) :
  Calls Tryz.prog 223 #[sndV p m, sndV p' m', .int .u32 mask] w (RetSnd w (takeM (p, m) (p', m') mask)) := by
 have h3' : decide (16777215 < mask) = false := by simpa using h3
 have HR : Hid (takeM (p, m) (p', m') mask = (mixI p p' mask, mixI m m' mask)) := by show _ = _; unfold takeM; simp [h1, h2, h3]
 have HLOW : Hid (∀ i, 24 ≤ i → (bv mask).getLsbD i = false) := by
  refine (low_iff (bv mask)).1 ?_
  have := toI_bv hk
  unfold toI at this
  omega
 have HP := hI hp; clear hp
 have HM := hI hm; clear hm
 have HP' := hI hp'; clear hp'
 have HM' := hI hm'; clear hm'
 have HK := hI hk; clear hk
 have H1 := hI h1; clear h1
 have H2 := hI h2; clear h2
 clear h3
 go_enter Tryz.func223, Tryz.ntmps223
 go_wp2_with fail
 have k0 : (((w.alloc (.cells #[.int .u32 p, .int .u32 m] 24)).alloc (.cells #[.int .u32 p', .int .u32 m'] 24)).alloc (.cells #[.int .u32 0, .int .u32 0] 24)).heap[w.heap.size]? = some (.cells #[.int .u32 p, .int .u32 m] 24 (0, 0)) := hpt
 have k1 : (((w.alloc (.cells #[.int .u32 p, .int .u32 m] 24)).alloc (.cells #[.int .u32 p', .int .u32 m'] 24)).alloc (.cells #[.int .u32 0, .int .u32 0] 24)).heap[w.heap.size + 1]? = some (.cells #[.int .u32 p', .int .u32 m'] 24 (0, 0)) := hpt
 have k2 : (((w.alloc (.cells #[.int .u32 p, .int .u32 m] 24)).alloc (.cells #[.int .u32 p', .int .u32 m'] 24)).alloc (.cells #[.int .u32 0, .int .u32 0] 24)).heap[w.heap.size + 1 + 1]? = some (.cells #[.int .u32 0, .int .u32 0] 24 (0, 0)) := hpt
 have kB : Below w.heap.size w (((w.alloc (.cells #[.int .u32 p, .int .u32 m] 24)).alloc (.cells #[.int .u32 p', .int .u32 m'] 24)).alloc (.cells #[.int .u32 0, .int .u32 0] 24)) := bel
 generalize (((w.alloc (.cells #[.int .u32 p, .int .u32 m] 24)).alloc (.cells #[.int .u32 p', .int .u32 m'] 24)).alloc (.cells #[.int .u32 0, .int .u32 0] 24)) = V0 at *
 refine (r1Valid_c p m _ HP.out HM.out).mono ?_
 rintro e w1 ⟨rfl, hb1⟩
 rw [H1.out]
 have k0' := (hb1.block _ (lt_of_block k0)).trans k0
 have k1' := (hb1.block _ (lt_of_block k1)).trans k1
 have k2' := (hb1.block _ (lt_of_block k2)).trans k2
 have kB' := kB.trans (hb1.mono kB.size)
 have d0 := cell_at_heap (j := 0) (v := .int .u32 p') k1' rfl
 have d1 := cell_at_heap (j := 1) (v := .int .u32 m') k1' rfl
 clear hb1 k0 k1 k2 kB
 have K0 := hI k0'; have K1 := hI k1'; have K2 := hI k2'; have KB := hI kB'
 clear k0' k1' k2' kB'
 go_wp2_with fail
 refine (r1Valid_c p' m' _ HP'.out HM'.out).mono ?_
 rintro e w2 ⟨rfl, hb2⟩
 rw [H2.out]
 have k0' := (hb2.block _ (lt_of_block K0.out)).trans K0.out
 have k1' := (hb2.block _ (lt_of_block K1.out)).trans K1.out
 have k2' := (hb2.block _ (lt_of_block K2.out)).trans K2.out
 have kB' := KB.out.trans (hb2.mono KB.out.size)
 have c0 := cell_at_heap (j := 0) (v := .int .u32 p) k0' rfl
 have c1 := cell_at_heap (j := 1) (v := .int .u32 m) k0' rfl
 clear hb2 d0 d1
 have K0 := hI k0'; have K1 := hI k1'; have K2 := hI k2'; have KB := hI kB'
 have l1 := lt_of_block k1'
 have l2 := lt_of_block k2'
 clear k0' k1' k2' kB'
 go_wp2
 have k3 : (w2.alloc (.cells #[.int .u32 p, .int .u32 m] 24)).heap[w2.heap.size]? = some (.cells #[.int .u32 p, .int .u32 m] 24 (0, 0)) := heap_new_at rfl
 have hba : Below w2.heap.size w2 (w2.alloc (.cells #[.int .u32 p, .int .u32 m] 24)) := bel
 have k1' := (hba.block _ (lt_of_block K1.out)).trans K1.out
 have k2' := (hba.block _ (lt_of_block K2.out)).trans K2.out
 have kB' := KB.out.trans (hba.mono KB.out.size)
 have hsz := KB.out.size
 generalize (w2.alloc (.cells #[.int .u32 p, .int .u32 m] 24)) = V3 at *
 obtain ⟨b3, eb3⟩ : ∃ b3, b3 = w2.heap.size := ⟨_, rfl⟩
 rw [← eb3] at k3 ⊢
 have lb3 : w.heap.size + 1 + 1 < b3 := by omega
 clear eb3 hba c0 c1
 have L3 := lt_of_block k3
 have K3 := hI k3; clear k3
 have K1 := hI k1'; have K2 := hI k2'; have KB := hI kB'
 clear k1' k2' kB' K0
 go_loopw [9] (fun i wr => ∃ (f : Nat) (x y : Int), f ≤ 24 ∧ i = .int .i64 f ∧ Hid (wr.heap[b3]? = some (.cells #[.int .u32 x, .int .u32 y] 24 (0, 0))) ∧ Hid (Upto p p' mask f x) ∧ Hid (Upto m m' mask f y) ∧ Hid (Keep (fun k => k = b3) V3 wr)) (fun i _ => 24 - (intOf i).toNat)
 case atStart => exact ⟨0, p, m, by omega, rfl, K3.out, Upto.start HP.out, Upto.start HM.out, Keep.refl _ _⟩
 case round =>
  obtain ⟨f, x, y, hf, rfl, h3, hx, hy, hK⟩ := hrel
  by_cases hlt : f < 24
  ·have hlt' : (f : Int) < 24 := by omega
   have hbt := bit_u32 HK.out f (by omega)
   obtain ⟨d, hd⟩ : ∃ d, d = (bv mask).getLsbD f := ⟨_, rfl⟩
   rw [← hd] at hbt
   cases d
   ·have hx1 := hx.out.skip hd.symm
    have hy1 := hy.out.skip hd.symm
    have HX1 := hI hx1; have HY1 := hI hy1
    clear hx1 hy1 hd
    go_wp2
    go_roundw
    case rel => exact ⟨f + 1, x, y, by omega, by go_num, h3, HX1, HY1, hK⟩
    case measure => simp [intOf]; omega
   ·have h1r := (hK.out.block _ (lt_of_block K1.out) (by omega)).trans K1.out
    have a0 := cell_at_heap (j := 0) (v := .int .u32 p') h1r rfl
    have a1 := cell_at_heap (j := 1) (v := .int .u32 m') h1r rfl
    have e0 := cell_at_heap (j := 0) (v := .int .u32 x) h3.out rfl
    have e1 := cell_at_heap (j := 1) (v := .int .u32 y) h3.out rfl
    have l3 := lt_of_block h3.out
    have hx1 := hx.out.put (by omega) hd.symm get_plus.symm (f := f) (t := p') (on := getM p' m' f == 1)
    have hy1 := hy.out.put (by omega) hd.symm (get_minus H2.out).symm (f := f) (t := m') (on := getM p' m' f == -1)
    have HX1 := hI hx1; have HY1 := hI hy1
    have L1 := lt_of_block h1r
    have H3r := h3
    clear hx1 hy1 hd h1r hx hy h3
    go_wp2
    refine plain_region (fun W' => W'.cell? ⟨b3, 0, none⟩ = some (.int .u32 x) ∧ W'.cell? ⟨b3, 1, none⟩ = some (.int .u32 y) ∧ W'.cell? ⟨w.heap.size + 1, 0, none⟩ = some (.int .u32 p') ∧ W'.cell? ⟨w.heap.size + 1, 1, none⟩ = some (.int .u32 m')) (by kernel_rfl) ⟨e0, e1, a0, a1⟩ (fun hHeld => ?_)
    (refine' anyT_tk 0 rfl ?_; (try simp only [Act.put, nY, nX])); (refine' anyT_tk 1 rfl ?_; (try simp only [Act.put, nY, nX])); (refine' anyT_tk 2 rfl ?_; (try simp only [Act.put, nY, nX])); (refine' anyT_tk 3 rfl ?_; (try simp only [Act.put, nY, nX]))
    (refine anyT_sp 4 rfl (fun K' hK' => ?_); simp only [nY]; go_simp)
    refine (r1Get_c p' m' f _ HP'.out HM'.out H2.out hlt).mono ?_
    rintro e w4 ⟨rfl, hb4'⟩
    have hb4 : Below wr.heap.size wr w4 := (Below.refl wr.heap.size wr).drew.trans hb4'
    have hS4 : w4.cell? ⟨b3, 0, none⟩ = some (.int .u32 x) ∧ w4.cell? ⟨b3, 1, none⟩ = some (.int .u32 y) ∧ w4.cell? ⟨w.heap.size + 1, 0, none⟩ = some (.int .u32 p') ∧ w4.cell? ⟨w.heap.size + 1, 1, none⟩ = some (.int .u32 m') :=
     ⟨(hb4.cell (p := ⟨b3, 0, none⟩) l3).trans e0, (hb4.cell (p := ⟨b3, 1, none⟩) l3).trans e1, (hb4.cell (p := ⟨w.heap.size + 1, 0, none⟩) L1).trans a0, (hb4.cell (p := ⟨w.heap.size + 1, 1, none⟩) L1).trans a1⟩
    refine hK' _ _ ⟨.inr hS4, fun _ => ?_⟩
    clear hK' K' hb4' hHeld e0 e1 a0 a1
    (try simp only [Act.put, nY, nX])
    (refine anyT_sp 5 rfl (fun K' hK' => ?_); simp only [nY]; go_simp)
    refine (r1Put_c x y f _ w4 hlt).mono ?_
    rintro e w5 ⟨rfl, hb5⟩
    have hs4 := hb4.size
    have hs5 := hb5.size
    have hb5' : Below wr.heap.size wr w5 := hb4.trans (hb5.mono hs4)
    have hS5 : w5.cell? ⟨b3, 0, none⟩ = some (.int .u32 x) ∧ w5.cell? ⟨b3, 1, none⟩ = some (.int .u32 y) ∧ w5.cell? ⟨w.heap.size + 1, 0, none⟩ = some (.int .u32 p') ∧ w5.cell? ⟨w.heap.size + 1, 1, none⟩ = some (.int .u32 m') :=
     ⟨(hb5.cell (p := ⟨b3, 0, none⟩) (by show b3 < _; omega)).trans hS4.1, (hb5.cell (p := ⟨b3, 1, none⟩) (by show b3 < _; omega)).trans hS4.2.1, (hb5.cell (p := ⟨w.heap.size + 1, 0, none⟩) (by show w.heap.size + 1 < _; omega)).trans hS4.2.2.1, (hb5.cell (p := ⟨w.heap.size + 1, 1, none⟩) (by show w.heap.size + 1 < _; omega)).trans hS4.2.2.2⟩
    refine hK' _ _ ⟨.inr hS5, fun _ => ?_⟩
    clear hK' K' hS4 hb4 hb5 hs4 hs5
    have h3' := (hb5'.block b3 l3).trans H3r.out
    have hK5 : Keep (fun k => k = b3) V3 w5 := hK.out.below hb5' rr
    (try simp only [Act.put, nY, nX])
    refine anyT_sp 6 rfl (fun K' hK' => ?_)
    rw [if_pos (by rfl)]
    refine wp_store_snd (.tmp 8) (.tmp 37) (by rfl) b3 (putP x f (getM p' m' f == 1)) (putP y f (getM p' m' f == -1)) (by rfl) (by rfl) h3' ?_
    intro W6 h6 hk6 hz6
    have hK6 := hK5.trans hk6
    refine hK' _ _ ⟨.inl (by kernel_rfl), fun _ => anyT_done (by kernel_rfl) ?_ _⟩
    clear hK' K' hS5 hz6 hk6 hK5 hb5' h3'
    have H6 := hI h6; clear h6
    go_wp2
    go_roundw
    case rel => exact ⟨f + 1, _, _, by omega, by go_num, H6.out, HX1, HY1, hK6⟩
    case measure => simp [intOf]; omega
  ·obtain rfl : f = 24 := by omega
   have hx1 := hx.out.done HLOW.out
   have hy1 := hy.out.done HLOW.out
   have h2r := (hK.out.block _ (lt_of_block K2.out) (by omega)).trans K2.out
   have e0 := cell_at_heap (j := 0) (v := .int .u32 x) h3.out rfl
   have e1 := cell_at_heap (j := 1) (v := .int .u32 y) h3.out rfl
   have HX1 := hI hx1; have HY1 := hI hy1
   clear hx1 hy1 hx hy
   go_wp2_with (refine wpList_store_snd rfl (.tmp 6) (.tmp 38) rfl (w.heap.size + 1 + 1) x y rfl rfl h2r ?_; intro W6 h6 hk6 hz6)
   refine bodyPost_ret (results_snd_tmp Tryz.results223 _ _ (w.heap.size + 1 + 1) x y (.int .i64 0) rfl rfl h6) rfl ⟨0, by rw [HR.out, HX1.out, HY1.out], ?_⟩
   exact (KB.out.trans (hK.out.to_below (fun k hk => by have hk' : k = b3 := hk; omega) KB.out.size)).trans (hk6.to_below (fun k hk => by have hk' : k = w.heap.size + 1 + 1 := hk; omega) (by have := hK.out.size; have := KB.out.size; omega))
theorem set_bits {p' m' clear : Int} (f : Nat) : (bv (bits .or .u32 clear (bits .or .u32 p' m'))).getLsbD f = ((bv clear).getLsbD f || ((bv p').getLsbD f || (bv m').getLsbD f)) := by
 rw [or_bv, bv_nat, or_bv, bv_nat, BitVec.getLsbD_or, BitVec.getLsbD_or]
theorem set_apart {p' m' clear : Int} (h : bits .and .u32 clear (bits .or .u32 p' m') = 0) (f : Nat) (hc : (bv clear).getLsbD f = true) : (bv p').getLsbD f = false ∧ (bv m').getLsbD f = false := by
 rw [and_bv, or_bv, bv_nat, zero_iff] at h
 have h1 := h f
 rw [BitVec.getLsbD_and, BitVec.getLsbD_or, hc] at h1
 simpa using h1
theorem r1Change_c (p m clear p' m' : Int) (w : World) (hp : U32 p) (hm : U32 m) (hp' : U32 p') (hm' : U32 m') (hk : U32 clear) (h1 : fvalid p m = true) (h2 : fvalid p' m' = true) (h3 : clear ≤ 16777215) (h4 : bits .and .u32 clear (bits .or .u32 p' m') = 0) :
  Calls Tryz.prog 222 #[sndV p m, .int .u32 clear, sndV p' m'] w (RetSnd w (changeM (p, m) clear (p', m'))) := by
 obtain ⟨S, hS⟩ : ∃ S, S = bits .or .u32 clear (bits .or .u32 p' m') := ⟨_, rfl⟩
 have HR : Hid (changeM (p, m) clear (p', m') = (mixI p p' S, mixI m m' S)) := by show _ = _; unfold changeM okChange; simp [h1, h2, h3, h4, hS]
 have HBIT : Hid (∀ f, (bv S).getLsbD f = ((bv clear).getLsbD f || ((bv p').getLsbD f || (bv m').getLsbD f))) := by show ∀ f, _ = _; intro f; rw [hS]; exact set_bits f
 have HAP : Hid (∀ f, (bv clear).getLsbD f = true → (bv p').getLsbD f = false ∧ (bv m').getLsbD f = false) := set_apart h4
 have HLOW : Hid (∀ i, 24 ≤ i → (bv S).getLsbD i = false) := by
  intro i hi
  have e1 : (bv clear).getLsbD i = false := by
   refine (low_iff (bv clear)).1 ?_ i hi
   have := toI_bv hk
   unfold toI at this
   omega
  have e2 := ((fvalid_iff p' m').1 h2 i).2 hi
  rw [HBIT.out, e1, e2.1, e2.2]; rfl
 have h3' : decide (16777215 < clear) = false := by simpa using h3
 have h4' : (bits .and .u32 clear (bits .or .u32 p' m') != 0) = false := by simpa using h4
 clear hS h4
 have HP := hI hp; clear hp
 have HM := hI hm; clear hm
 have HP' := hI hp'; clear hp'
 have HM' := hI hm'; clear hm'
 have HK := hI hk; clear hk
 have H1 := hI h1; clear h1
 have H2 := hI h2; clear h2
 clear h3
 go_enter Tryz.func222, Tryz.ntmps222
 go_wp2_with fail
 have k0 : (((w.alloc (.cells #[.int .u32 p, .int .u32 m] 24)).alloc (.cells #[.int .u32 p', .int .u32 m'] 24)).alloc (.cells #[.int .u32 0, .int .u32 0] 24)).heap[w.heap.size]? = some (.cells #[.int .u32 p, .int .u32 m] 24 (0, 0)) := hpt
 have k1 : (((w.alloc (.cells #[.int .u32 p, .int .u32 m] 24)).alloc (.cells #[.int .u32 p', .int .u32 m'] 24)).alloc (.cells #[.int .u32 0, .int .u32 0] 24)).heap[w.heap.size + 1]? = some (.cells #[.int .u32 p', .int .u32 m'] 24 (0, 0)) := hpt
 have k2 : (((w.alloc (.cells #[.int .u32 p, .int .u32 m] 24)).alloc (.cells #[.int .u32 p', .int .u32 m'] 24)).alloc (.cells #[.int .u32 0, .int .u32 0] 24)).heap[w.heap.size + 1 + 1]? = some (.cells #[.int .u32 0, .int .u32 0] 24 (0, 0)) := hpt
 have kB : Below w.heap.size w (((w.alloc (.cells #[.int .u32 p, .int .u32 m] 24)).alloc (.cells #[.int .u32 p', .int .u32 m'] 24)).alloc (.cells #[.int .u32 0, .int .u32 0] 24)) := bel
 generalize (((w.alloc (.cells #[.int .u32 p, .int .u32 m] 24)).alloc (.cells #[.int .u32 p', .int .u32 m'] 24)).alloc (.cells #[.int .u32 0, .int .u32 0] 24)) = V0 at *
 refine (r1Valid_c p m _ HP.out HM.out).mono ?_
 rintro e w1 ⟨rfl, hb1⟩
 rw [H1.out]
 have k0' := (hb1.block _ (lt_of_block k0)).trans k0
 have k1' := (hb1.block _ (lt_of_block k1)).trans k1
 have k2' := (hb1.block _ (lt_of_block k2)).trans k2
 have kB' := kB.trans (hb1.mono kB.size)
 have d0 := cell_at_heap (j := 0) (v := .int .u32 p') k1' rfl
 have d1 := cell_at_heap (j := 1) (v := .int .u32 m') k1' rfl
 clear hb1 k0 k1 k2 kB
 have K0 := hI k0'; have K1 := hI k1'; have K2 := hI k2'; have KB := hI kB'
 clear k0' k1' k2' kB'
 go_wp2_with fail
 refine (r1Valid_c p' m' _ HP'.out HM'.out).mono ?_
 rintro e w2 ⟨rfl, hb2⟩
 rw [H2.out]
 have k0' := (hb2.block _ (lt_of_block K0.out)).trans K0.out
 have k1' := (hb2.block _ (lt_of_block K1.out)).trans K1.out
 have k2' := (hb2.block _ (lt_of_block K2.out)).trans K2.out
 have kB' := KB.out.trans (hb2.mono KB.out.size)
 have c0 := cell_at_heap (j := 0) (v := .int .u32 p) k0' rfl
 have c1 := cell_at_heap (j := 1) (v := .int .u32 m) k0' rfl
 have c2 := cell_at_heap (j := 0) (v := .int .u32 p') k1' rfl
 have c3 := cell_at_heap (j := 1) (v := .int .u32 m') k1' rfl
 clear hb2 d0 d1
 have K0 := hI k0'; have K1 := hI k1'; have K2 := hI k2'; have KB := hI kB'
 have l1 := lt_of_block k1'
 have l2 := lt_of_block k2'
 clear k0' k1' k2' kB'
 go_wp2
 have k3 : (w2.alloc (.cells #[.int .u32 p, .int .u32 m] 24)).heap[w2.heap.size]? = some (.cells #[.int .u32 p, .int .u32 m] 24 (0, 0)) := heap_new_at rfl
 have hba : Below w2.heap.size w2 (w2.alloc (.cells #[.int .u32 p, .int .u32 m] 24)) := bel
 have k1' := (hba.block _ (lt_of_block K1.out)).trans K1.out
 have k2' := (hba.block _ (lt_of_block K2.out)).trans K2.out
 have kB' := KB.out.trans (hba.mono KB.out.size)
 have hsz := KB.out.size
 generalize (w2.alloc (.cells #[.int .u32 p, .int .u32 m] 24)) = V3 at *
 obtain ⟨b3, eb3⟩ : ∃ b3, b3 = w2.heap.size := ⟨_, rfl⟩
 rw [← eb3] at k3 ⊢
 have lb3 : w.heap.size + 1 + 1 < b3 := by omega
 clear eb3 hba c0 c1 c2 c3 h4'
 have L3 := lt_of_block k3
 have K3 := hI k3; clear k3
 have K1 := hI k1'; have K2 := hI k2'; have KB := hI kB'
 clear k1' k2' kB' K0
 go_loopw [9] (fun i wr => ∃ (f : Nat) (x y : Int), f ≤ 24 ∧ i = .int .i64 f ∧ Hid (wr.heap[b3]? = some (.cells #[.int .u32 x, .int .u32 y] 24 (0, 0))) ∧ Hid (Upto p p' S f x) ∧ Hid (Upto m m' S f y) ∧ Hid (Keep (fun k => k = b3) V3 wr)) (fun i _ => 24 - (intOf i).toNat)
 case atStart => exact ⟨0, p, m, by omega, rfl, K3.out, Upto.start HP.out, Upto.start HM.out, Keep.refl _ _⟩
 case round =>
  obtain ⟨f, x, y, hf, rfl, h3, hx, hy, hK⟩ := hrel
  by_cases hlt : f < 24
  ·have hlt' : (f : Int) < 24 := by omega
   have hbt := bit_u32 HK.out f (by omega)
   obtain ⟨d, hd⟩ : ∃ d, d = (bv clear).getLsbD f := ⟨_, rfl⟩
   rw [← hd] at hbt
   have hbit := HBIT.out f
   have h1r := (hK.out.block _ (lt_of_block K1.out) (by omega)).trans K1.out
   have a0 := cell_at_heap (j := 0) (v := .int .u32 p') h1r rfl
   have a1 := cell_at_heap (j := 1) (v := .int .u32 m') h1r rfl
   have e0 := cell_at_heap (j := 0) (v := .int .u32 x) h3.out rfl
   have e1 := cell_at_heap (j := 1) (v := .int .u32 y) h3.out rfl
   have l3 := lt_of_block h3.out
   have L1 := lt_of_block h1r
   have H1r := hI h1r; clear h1r
   cases d
   ·-- nothing is cleared
    rw [← hd, Bool.false_or] at hbit
    have HBT := hI hbit; clear hbit hd
    go_wp2_with fail
    refine (r1Get_c p' m' f wr HP'.out HM'.out H2.out hlt).mono ?_
    rintro e wg ⟨rfl, hbg⟩
    have hKg : Keep (fun k => k = b3) V3 wg := hK.out.below hbg rr
    have hsg := hbg.size
    have e0' := (hbg.cell (p := ⟨b3, 0, none⟩) l3).trans e0
    have e1' := (hbg.cell (p := ⟨b3, 1, none⟩) l3).trans e1
    have a0' := (hbg.cell (p := ⟨w.heap.size + 1, 0, none⟩) L1).trans a0
    have a1' := (hbg.cell (p := ⟨w.heap.size + 1, 1, none⟩) L1).trans a1
    have h3g := (hbg.block b3 l3).trans h3.out
    clear hbg e0 e1 a0 a1
    obtain ⟨g, hg⟩ : ∃ g, g = getM p' m' f := ⟨_, rfl⟩
    rw [← hg]
    by_cases hg0 : g = 0
    ·have hn := get_none.1 (hg.symm.trans hg0)
     have hx1 := hx.out.skip (by rw [HBT.out, hn.1, hn.2]; rfl)
     have hy1 := hy.out.skip (by rw [HBT.out, hn.1, hn.2]; rfl)
     have HX1 := hI hx1; have HY1 := hI hy1; have HKG := hI hKg; have H3G := hI h3g
     clear hx1 hy1 hn hg hKg h3g hx hy hK h3 e0' e1' a0' a1'
     subst hg0
     go_wp2
     go_roundw
     case rel => exact ⟨f + 1, x, y, by omega, by go_num, H3G, HX1, HY1, HKG⟩
     case measure => simp [intOf]; omega
    ·have hgt : (bv S).getLsbD f = true := by
      rw [HBT.out]
      cases hp1 : (bv p').getLsbD f
      ·cases hm1 : (bv m').getLsbD f
       ·exact absurd (hg.trans (get_none.2 ⟨hp1, hm1⟩)) hg0
       ·rfl
      ·rfl
     have hx1 := hx.out.put (by omega) hgt get_plus.symm (f := f) (t := p') (on := getM p' m' f == 1)
     have hy1 := hy.out.put (by omega) hgt (get_minus H2.out).symm (f := f) (t := m') (on := getM p' m' f == -1)
     have HX1 := hI hx1; have HY1 := hI hy1
     have hg1 : (g != 0) = true := by simpa using hg0
     have l3g : b3 < wg.heap.size := by omega
     have L1g : w.heap.size + 1 < wg.heap.size := by omega
     have H3r := hI h3g
     clear hx1 hy1 hgt hg hg0 hx hy h3 h3g hK
     go_wp2
     refine plain_region (fun W' => W'.cell? ⟨b3, 0, none⟩ = some (.int .u32 x) ∧ W'.cell? ⟨b3, 1, none⟩ = some (.int .u32 y) ∧ W'.cell? ⟨w.heap.size + 1, 0, none⟩ = some (.int .u32 p') ∧ W'.cell? ⟨w.heap.size + 1, 1, none⟩ = some (.int .u32 m')) (by kernel_rfl) ⟨e0', e1', a0', a1'⟩ (fun hHeld => ?_)
     (refine' anyT_tk 0 rfl ?_; (try simp only [Act.put, nY, nX])); (refine' anyT_tk 1 rfl ?_; (try simp only [Act.put, nY, nX])); (refine' anyT_tk 2 rfl ?_; (try simp only [Act.put, nY, nX])); (refine' anyT_tk 3 rfl ?_; (try simp only [Act.put, nY, nX]))
     (refine anyT_sp 4 rfl (fun K' hK' => ?_); simp only [nY]; go_simp)
     refine (r1Get_c p' m' f _ HP'.out HM'.out H2.out hlt).mono ?_
     rintro e w4 ⟨rfl, hb4'⟩
     have hb4 : Below wg.heap.size wg w4 := (Below.refl wg.heap.size wg).drew.trans hb4'
     have hS4 : w4.cell? ⟨b3, 0, none⟩ = some (.int .u32 x) ∧ w4.cell? ⟨b3, 1, none⟩ = some (.int .u32 y) ∧ w4.cell? ⟨w.heap.size + 1, 0, none⟩ = some (.int .u32 p') ∧ w4.cell? ⟨w.heap.size + 1, 1, none⟩ = some (.int .u32 m') :=
      ⟨(hb4.cell (p := ⟨b3, 0, none⟩) l3g).trans e0', (hb4.cell (p := ⟨b3, 1, none⟩) l3g).trans e1', (hb4.cell (p := ⟨w.heap.size + 1, 0, none⟩) L1g).trans a0', (hb4.cell (p := ⟨w.heap.size + 1, 1, none⟩) L1g).trans a1'⟩
     refine hK' _ _ ⟨.inr hS4, fun _ => ?_⟩
     clear hK' K' hb4' hHeld e0' e1' a0' a1'
     (try simp only [Act.put, nY, nX])
     (refine anyT_sp 5 rfl (fun K' hK' => ?_); simp only [nY]; go_simp)
     refine (r1Put_c x y f _ w4 hlt).mono ?_
     rintro e w5 ⟨rfl, hb5⟩
     have hs4 := hb4.size
     have hs5 := hb5.size
     have hb5' : Below wg.heap.size wg w5 := hb4.trans (hb5.mono hs4)
     have hS5 : w5.cell? ⟨b3, 0, none⟩ = some (.int .u32 x) ∧ w5.cell? ⟨b3, 1, none⟩ = some (.int .u32 y) ∧ w5.cell? ⟨w.heap.size + 1, 0, none⟩ = some (.int .u32 p') ∧ w5.cell? ⟨w.heap.size + 1, 1, none⟩ = some (.int .u32 m') :=
      ⟨(hb5.cell (p := ⟨b3, 0, none⟩) (by show b3 < _; omega)).trans hS4.1, (hb5.cell (p := ⟨b3, 1, none⟩) (by show b3 < _; omega)).trans hS4.2.1, (hb5.cell (p := ⟨w.heap.size + 1, 0, none⟩) (by show w.heap.size + 1 < _; omega)).trans hS4.2.2.1, (hb5.cell (p := ⟨w.heap.size + 1, 1, none⟩) (by show w.heap.size + 1 < _; omega)).trans hS4.2.2.2⟩
     refine hK' _ _ ⟨.inr hS5, fun _ => ?_⟩
     clear hK' K' hS4 hb4 hb5 hs4 hs5
     have h3' := (hb5'.block b3 l3g).trans H3r.out
     have hK5 : Keep (fun k => k = b3) V3 w5 := hKg.below hb5' rr
     (try simp only [Act.put, nY, nX])
     refine anyT_sp 6 rfl (fun K' hK' => ?_)
     rw [if_pos (by rfl)]
     refine wp_store_snd (.tmp 8) (.tmp 54) (by rfl) b3 (putP x f (getM p' m' f == 1)) (putP y f (getM p' m' f == -1)) (by rfl) (by rfl) h3' ?_
     intro W6 h6 hk6 hz6
     have hK6 := hK5.trans hk6
     refine hK' _ _ ⟨.inl (by kernel_rfl), fun _ => anyT_done (by kernel_rfl) ?_ _⟩
     clear hK' K' hS5 hz6 hk6 hK5 hb5' h3'
     have H6 := hI h6; clear h6
     go_wp2
     go_roundw
     case rel => exact ⟨f + 1, _, _, by omega, by go_num, H6.out, HX1, HY1, hK6⟩
     case measure => simp [intOf]; omega
   ·-- the bit is cleared
    have hap := HAP.out f hd.symm
    have hS : (bv S).getLsbD f = true := by rw [hbit, ← hd]; rfl
    have hx1 := hx.out.put (by omega) hS hap.1 (f := f) (t := p') (on := false)
    have hy1 := hy.out.put (by omega) hS hap.2 (f := f) (t := m') (on := false)
    have HX1 := hI hx1; have HY1 := hI hy1
    have hg0 : getM p' m' f = 0 := get_none.2 hap
    have HG0 := hI hg0
    clear hx1 hy1 hS hap hbit hd hg0 hx hy
    go_wp2_with fail
    refine (r1Put_c x y f 0 wr hlt).mono ?_
    rintro e wg ⟨rfl, hbg⟩
    have hKg : Keep (fun k => k = b3) V3 wg := hK.out.below hbg rr
    have h3g := (hbg.block b3 l3).trans h3.out
    have h1g := (hbg.block (w.heap.size + 1) L1).trans H1r.out
    have q1 : ((0 : Int) == 1) = false := rfl
    have q2 : ((0 : Int) == -1) = false := rfl
    rw [q1, q2]
    clear hbg e0 e1 a0 a1 hK h3 q1 q2
    go_wp2_with (refine wpList_store_snd rfl (.tmp 8) (.tmp 44) rfl b3 (putP x f false) (putP y f false) rfl rfl h3g ?_; intro W6 h6 hk6 hz6; have h16 := (hk6.block (w.heap.size + 1) (lt_of_block h1g) (by omega)).trans h1g; have a0 := cell_at_heap (j := 0) (v := .int .u32 p') h16 rfl; have a1 := cell_at_heap (j := 1) (v := .int .u32 m') h16 rfl)
    have hK6 := hKg.trans hk6
    have H6 := hI h6; have HK6 := hI hK6
    clear h6 hk6 hz6 hK6 hKg h3g h1g h16
    refine (r1Get_c p' m' f W6 HP'.out HM'.out H2.out hlt).mono ?_
    rintro e W7 ⟨rfl, hb7⟩
    rw [HG0.out]
    have H7 := hI ((hb7.block b3 (lt_of_block H6.out)).trans H6.out)
    have HK7 := hI (HK6.out.below hb7 rr)
    clear hb7 a0 a1
    go_wp2
    go_roundw
    case rel => exact ⟨f + 1, _, _, by omega, by go_num, H7, HX1, HY1, HK7⟩
    case measure => simp [intOf]; omega
  ·obtain rfl : f = 24 := by omega
   have hx1 := hx.out.done HLOW.out
   have hy1 := hy.out.done HLOW.out
   have h2r := (hK.out.block _ (lt_of_block K2.out) (by omega)).trans K2.out
   have e0 := cell_at_heap (j := 0) (v := .int .u32 x) h3.out rfl
   have e1 := cell_at_heap (j := 1) (v := .int .u32 y) h3.out rfl
   have HX1 := hI hx1; have HY1 := hI hy1
   clear hx1 hy1 hx hy
   go_wp2_with (refine wpList_store_snd rfl (.tmp 6) (.tmp 55) rfl (w.heap.size + 1 + 1) x y rfl rfl h2r ?_; intro W6 h6 hk6 hz6)
   refine bodyPost_ret (results_snd_tmp Tryz.results222 _ _ (w.heap.size + 1 + 1) x y (.int .i64 0) rfl rfl h6) rfl ⟨0, by rw [HR.out, HX1.out, HY1.out], ?_⟩
   exact (KB.out.trans (hK.out.to_below (fun k hk => by have hk' : k = b3 := hk; omega) KB.out.size)).trans (hk6.to_below (fun k hk => by have hk' : k = w.heap.size + 1 + 1 := hk; omega) (by have := hK.out.size; have := KB.out.size; omega))
def SndU (s : Snd) : Prop := U32 s.1 ∧ U32 s.2
def WordU (ws : List Snd) : Prop := ∀ s ∈ ws, SndU s
theorem u32_low {x : Int} (h : U32 x) : (x < 16777216) ↔ ∀ i, 24 ≤ i → (bv x).getLsbD i = false := by
 rw [← low_iff]
 have := toI_bv h
 unfold toI at this
 omega
theorem valid_parts {p m : Int} (hp : U32 p) (hm : U32 m) : wvalid p m = (bits .and .u32 p m == 0 && (decide (p < 16777216) && decide (m < 16777216))) := by
 rw [Bool.eq_iff_iff, wvalid_iff, Bool.and_eq_true, Bool.and_eq_true, beq_iff_eq, decide_eq_true_eq, decide_eq_true_eq, u32_low hp, u32_low hm, and_bv, zero_iff]
 simp only [BitVec.getLsbD_and]
 exact ⟨fun h => ⟨fun i => (h i).1, fun i hi => ((h i).2 hi).1, fun i hi => ((h i).2 hi).2⟩, fun h i => ⟨h.1 i, fun hi => ⟨h.2.1 i hi, h.2.2 i hi⟩⟩⟩
theorem r2Valid_c (p m : Int) (w : World) (hp : U32 p) (hm : U32 m) :
  Calls Tryz.prog 164 #[sndV p m] w fun e w' => e = .returned (.bool (wvalid p m)) ∧ Below w.heap.size w w' := by
 have H := hI (valid_parts hp hm)
 clear hp hm
 obtain ⟨d1, hd1⟩ : ∃ d1, (bits .and .u32 p m == 0) = d1 := ⟨_, rfl⟩
 obtain ⟨d2, hd2⟩ : ∃ d2, decide (p < 16777216) = d2 := ⟨_, rfl⟩
 obtain ⟨d3, hd3⟩ : ∃ d3, decide (m < 16777216) = d3 := ⟨_, rfl⟩
 have H1 : Hid (wvalid p m = (d1 && (d2 && d3))) := by show _ = _; rw [H.out, hd1, hd2, hd3]
 clear H
 cases d1
 ·clear hd2 hd3
  go_enter Tryz.func164, Tryz.ntmps164
  go_wp2
  go_ret
  exact ⟨by rw [H1.out]; rfl, bel⟩
 ·cases d2
  ·clear hd3
   go_enter Tryz.func164, Tryz.ntmps164
   go_wp2
   go_ret
   exact ⟨by rw [H1.out]; rfl, bel⟩
  ·go_enter Tryz.func164, Tryz.ntmps164
   go_wp2
   go_ret
   exact ⟨by rw [H1.out]; rfl, bel⟩
theorem r2Check_c (A : Option Addr) (n c : Nat) (xs : List Snd) (w : World) (hx : IsWord w A n c xs) (hu : WordU xs) :
  Calls Tryz.prog 130 #[.slice A n c] w fun e w' => e = .returned (.int .i64 (wcheck xs)) ∧ Below w.heap.size w w' := by
 by_cases h32 : 32 < n
 ·have hv : wcheck xs = 11 := by unfold wcheck; rw [if_pos (by rw [hx.len]; exact h32)]
  have H := hI hv; clear hv hu
  have HX := hI hx; clear hx
  go_enter Tryz.func130, Tryz.ntmps130
  go_wp2
  go_ret
  exact ⟨by rw [H.out]; rfl, bel⟩
 ·have hv : wcheck xs = if xs.all (fun s => wvalid s.1 s.2) then 0 else 14 := by unfold wcheck; rw [if_neg (by rw [hx.len]; exact h32)]
  have H := hI hv; clear hv
  have HX := hI hx; clear hx
  have HU := hI hu; clear hu
  have hm : n ≤ 32 := by omega
  go_enter Tryz.func130, Tryz.ntmps130
  go_wp2
  go_loopw [3] (fun i wr => ∃ k : Nat, k ≤ n ∧ i = .int .i64 k ∧ Hid ((xs.take k).all (fun s => wvalid s.1 s.2) = true) ∧ Below w.heap.size w wr) (fun i _ => n - (intOf i).toNat)
  case atStart => exact ⟨0, Nat.zero_le _, rfl, by simp [Hid], bel⟩
  case round =>
   obtain ⟨k, hk, rfl, HA, hB⟩ := hrel
   by_cases hlt : k < n
   ·obtain ⟨b, off, p, m, rfl, hb, hxk, hc0, hc1⟩ := (HX.out.below hB rr).at_ hlt
    have hlt' : (k : Int) < (n : Int) := by omega
    have hu := HU.out _ (List.mem_of_getElem? hxk)
    have HUK := hI hu; clear hu
    have HK := hI hxk; clear hxk
    have HS := hI (take_snoc' xs k (p, m) HK.out)
    go_wp2_with fail
    refine (r2Valid_c p m wr HUK.out.1 HUK.out.2).mono ?_
    rintro e w1 ⟨rfl, hb1⟩
    have hB1 := hB.trans (hb1.mono hB.size)
    clear hb1 hc0 hc1
    obtain ⟨v, hv⟩ : ∃ v, v = wvalid p m := ⟨_, rfl⟩
    rw [← hv]
    cases v
    ·have hf : xs.all (fun s => wvalid s.1 s.2) = false := by
      rw [← List.take_append_drop (k + 1) xs, HS.out]; simp [← hv]
     have HF := hI hf; clear hf hv
     go_wp2
     go_ret
     exact ⟨by rw [H.out, HF.out]; rfl, hB1⟩
    ·have HG : Hid ((xs.take (k + 1)).all (fun s => wvalid s.1 s.2) = true) := by show _ = _; rw [HS.out, List.all_append, HA.out]; simp [← hv]
     clear hv
     go_wp2
     go_roundw
     case rel => exact ⟨k + 1, by omega, by go_num, HG, hB1⟩
     case measure => simp [intOf]; omega
   ·obtain rfl : k = n := by omega
    have hf : xs.all (fun s => wvalid s.1 s.2) = true := by
     have := HA.out; rwa [List.take_of_length_le (by rw [HX.out.len]; exact rr)] at this
    have HF := hI hf; clear hf
    go_wp2
    go_ret
    exact ⟨by rw [H.out, HF.out]; rfl, hB⟩
theorem r2Copy_c (A : Option Addr) (n c : Nat) (xs : List Snd) (w : World) (hx : IsWord w A n c xs) (hn : n ≤ 4000) :
  Calls Tryz.prog 131 #[.slice A n c] w (RetWord w xs) := by
 have HX := hI hx; clear hx
 go_enter Tryz.func131, Tryz.ntmps131
 go_wp2
 go_loopw [3, 4] (fun v i wr => ∃ k : Nat, k ≤ n ∧ i = .int .i64 k ∧ Hid (wr.ownsRow w.heap.size 24 2 v k (wcells (xs.take k))) ∧ Below w.heap.size w wr) (fun _ i _ => n - (intOf i).toNat)
 case atStart => exact ⟨0, Nat.zero_le _, rfl, World.ownsRow_nil _ _ _ _, Below.refl _ _⟩
 case round =>
  obtain ⟨k, hk, rfl, hown, hB⟩ := hrel
  have hBs := hB.size
  by_cases hlt : k < n
  ·obtain ⟨b, off, p, m, rfl, hb, hxk, hc0, hc1⟩ := (HX.out.below hB rr).at_ hlt
   have hlt' : (k : Int) < (n : Int) := by omega
   have HS := hI (take_snoc' xs k (p, m) hxk); clear hxk
   go_wp2_with (at_builtin; refine append_snd rfl (.tmp 11) (.tmp 16) rfl w.heap.size u3 k (xs.take k) rfl (hown.out.alloc _) (some ⟨wr.heap.size, 0, none⟩) 1 1 [(p, m)] rfl (word_one wr p m 24) (by omega) (by simp; omega) ?_; intro v' w9 hown9 hg9 _)
   have hB9 : Below w.heap.size w w9 := (hB.alloc hBs _).grown hg9 (by simp; omega) (fun q hq => (hown.out.lt _ hq).1)
   go_roundw
   case rel => exact ⟨k + 1, by omega, by go_num, by show w9.ownsRow _ _ _ _ _ _; rw [HS.out]; exact hown9, hB9⟩
   case measure => simp [intOf]; omega
  ·obtain rfl : k = n := by omega
   have hown' := hown.out
   rw [List.take_of_length_le (by rw [HX.out.len]; exact rr)] at hown'
   go_wp2
   go_ret
   exact RetWord.of_own rfl hown' hB rr
end Go.Proofs.YtcpcojgmmpnkoaaGreatDoor

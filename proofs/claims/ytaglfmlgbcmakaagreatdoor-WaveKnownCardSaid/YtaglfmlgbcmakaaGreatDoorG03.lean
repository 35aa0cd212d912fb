/-
  math/bits.TrailingZeros64, over its table; sets of places as numbers.
  Relations of places: arrays of 33 sets; pats.relation's methods.
  Relations of places, on: identity, or, power.
  pats.relation.power.
-/
import Derived.Lib.TrailingZeros
import Derived.Laws.Bits64b
import Derived.Test.YtaglfmlgbcmakaaGreatDoorG02
set_option linter.all false
set_option maxRecDepth 100000
set_option maxHeartbeats 4000000
namespace Go.Proofs.YtaglfmlgbcmakaaGreatDoor
open Go.RowKit
def TabOK (w : World) : Prop := 3 < w.heap.size ∧ ∀ j, j < 64 → w.cell? ⟨3, j, none⟩ = some (.int .u8 (Lib.deBruijn64tab.getD j 0))
theorem TabOK.below {w w' : World} (h : TabOK w) {B : Nat} (hb : Below B w w') (hB : w.heap.size ≤ B) : TabOK w' :=
 ⟨Nat.lt_of_lt_of_le h.1 hb.size, fun j hj => (hb.cell (p := ⟨_, j, none⟩) (Nat.lt_of_lt_of_le h.1 hB)).trans (h.2 j hj)⟩
theorem TabOK.keep {S : Nat → Prop} {w w' : World} (h : TabOK w) (hk : Keep S w w') (hS : ¬ S 3) : TabOK w' :=
 ⟨Nat.lt_of_lt_of_le h.1 hk.size, fun j hj => (World.cell?_of_block (hk.block _ h.1 hS)).trans (h.2 j hj)⟩
theorem tz_core (x k idx : Nat) (w : World) (hx0 : ((x : Int) == 0) = false)
  (key : IntKind.u64.wrap (bits BinOp.and IntKind.u64 (x : Int) (IntKind.u64.wrap (-(x : Int))) * 285870213051353865) / 288230376151711744 = (idx : Int))
  (hi : idx < 64) (hk : k < 64) (hcell : w.cell? ⟨3, idx, none⟩ = some (.int .u8 k)) :
  Calls Tryz.prog 244 #[.int .u64 x] w fun e w' => e = .returned (.int .i64 k) ∧ w = w' := by
 go_enter Tryz.func244, Tryz.ntmps244
 go_wp2_with (simp only [key])
 go_ret
 exact ⟨rfl, rfl⟩
theorem tz_key (x a : Nat) (hx : x < 18446744073709551616) (hx0 : x ≠ 0) (hlow : x &&& (18446744073709551616 - x) = a) :
  IntKind.u64.wrap (bits BinOp.and IntKind.u64 (x : Int) (IntKind.u64.wrap (-(x : Int))) * 285870213051353865) / 288230376151711744 = ((a * 285870213051353865 % 18446744073709551616 / 288230376151711744 : Nat) : Int) := by
 have e1 : IntKind.u64.wrap (-(x : Int)) = ((18446744073709551616 - x : Nat) : Int) := by rw [IntKind.wrap_u64]; omega
 rw [e1, u64_and_nat x _ hx (by omega), hlow, IntKind.wrap_u64]
 omega
def ctz (x : Nat) : Nat := Lib.ctz 64 x
def Small (s : Nat) : Prop := s < 8589934592
theorem tz_c (x : Nat) (w : World) (h0 : x ≠ 0) (hx : Small x) (hT : TabOK w) :
  Calls Tryz.prog 244 #[.int .u64 x] w fun e w' => e = .returned (.int .i64 (ctz x)) ∧ w = w' := by
 unfold Small at hx
 obtain ⟨hlow, hk⟩ := Lib.lowest_bit 64 x h0 (by omega)
 obtain ⟨hi, htab⟩ := Lib.deBruijn64_at _ hk
 have hcell := hT.2 _ hi
 rw [htab] at hcell
 exact tz_core x _ _ w (by simp; omega) (tz_key x _ (by omega) h0 hlow) hi hk hcell
end Go.Proofs.YtaglfmlgbcmakaaGreatDoor
namespace Go.Proofs.YtaglfmlgbcmakaaGreatDoor
open Go.RowKit
attribute [local go_sem] Oper.semAt_some
def rarr (r : List Nat) : Array Value := (r.map fun (s : Nat) => Value.int .u64 (s : Int)).toArray
def RelAt (w : World) (b : Nat) (r : List Nat) : Prop := w.heap[b]? = some (.cells (rarr r) 266 (0, 0)) ∧ r.length = 33
def zeroR : List Nat := List.replicate 33 0
theorem RelAt.get {w : World} {b k s : Nat} {r : List Nat} (h : RelAt w b r) (hk : r[k]? = some s) : w.cell? ⟨b, k, none⟩ = some (.int .u64 (s : Int)) := by
 rw [cell_of_row w b k _ _ _ h.1]
 simp [rarr, hk]
theorem RelAt.below {w w' : World} {b : Nat} {r : List Nat} (h : RelAt w b r) {B : Nat} (hb : Below B w w') (hB : w.heap.size ≤ B) : RelAt w' b r :=
 ⟨(hb.block b (Nat.lt_of_lt_of_le (Array.getElem?_eq_some_iff.1 h.1).1 hB)).trans h.1, h.2⟩
theorem RelAt.lt {w : World} {b : Nat} {r : List Nat} (h : RelAt w b r) : b < w.heap.size := (Array.getElem?_eq_some_iff.1 h.1).1
def G : List Nat → Nat → Nat
 | [], _ => 0
 | v :: ys, s => (if s % 2 = 1 then v else 0) ||| G ys (s / 2)
def thenM (x y : List Nat) : List Nat := x.map (G y)
theorem G_zero : ∀ y, G y 0 = 0
 | [] => rfl
 | _ :: ys => by simp [G, G_zero ys]
theorem G_step : ∀ (y : List Nat) (k m : Nat), k < y.length → G y (2 ^ k * (2 * m + 1)) = y.getD k 0 ||| G y (2 ^ k * (2 * m + 1) - 2 ^ k)
 | [], _, _, h => by simp at h
 | v :: ys, 0, m, _ => by
  simp only [G, Nat.pow_zero, Nat.one_mul, List.getD_cons_zero, Nat.add_sub_cancel]
  rw [if_pos (by omega), if_neg (by omega), show (2 * m + 1) / 2 = m by omega, show 2 * m / 2 = m by omega, Nat.zero_or]
 | v :: ys, k + 1, m, h => by
  have ih := G_step ys k m (by simpa using h)
  have e : 2 ^ (k + 1) * (2 * m + 1) = 2 * (2 ^ k * (2 * m + 1)) := by rw [Nat.pow_succ]; simp only [Nat.mul_assoc, Nat.mul_comm, Nat.mul_left_comm]
  have e' : 2 ^ (k + 1) * (2 * m + 1) - 2 ^ (k + 1) = 2 * (2 ^ k * (2 * m + 1) - 2 ^ k) := by rw [e, Nat.pow_succ, Nat.mul_sub]; simp only [Nat.mul_comm]
  simp only [G, List.getD_cons_succ]
  rw [e', e, if_neg (by omega), if_neg (by omega), Nat.mul_div_cancel_left _ (by decide), Nat.mul_div_cancel_left _ (by decide), Nat.zero_or, Nat.zero_or, ih]
def clr (s : Nat) : Nat := s - 2 ^ ctz s
theorem ctz_form (s : Nat) (h0 : s ≠ 0) (hs : Small s) : ∃ m, s = 2 ^ ctz s * (2 * m + 1) ∧ ctz s < 33 := by
 unfold Small at hs
 obtain ⟨m, hm, hk⟩ := Lib.ctzFrom_spec 64 s (by omega) (by omega)
 have e : ctz s = Lib.ctzFrom 64 s := by simp [ctz, Lib.ctz, h0]
 rw [← e] at hm hk
 refine ⟨m, hm, ?_⟩
 rcases Nat.lt_or_ge (ctz s) 33 with h | h
 ·exact h
 ·have h1 : 2 ^ 33 ≤ 2 ^ ctz s := Nat.pow_le_pow_right (by decide) h
  have h2 : 2 ^ ctz s ≤ 2 ^ ctz s * (2 * m + 1) := Nat.le_mul_of_pos_right _ (by omega)
  rw [← hm] at h2
  have h3 : (2 : Nat) ^ 33 = 8589934592 := by decide
  omega
theorem ctz_lt (s : Nat) (h0 : s ≠ 0) (hs : Small s) : ctz s < 33 := by obtain ⟨_, _, h⟩ := ctz_form s h0 hs; exact h
theorem clr_lt (s : Nat) (h0 : s ≠ 0) : clr s < s := by have := Nat.two_pow_pos (ctz s); unfold clr; omega
theorem clr_small (s : Nat) (hs : Small s) : Small (clr s) := by have := Nat.sub_le s (2 ^ ctz s); unfold Small clr at *; omega
theorem G_clr (y : List Nat) (hy : y.length = 33) (s : Nat) (h0 : s ≠ 0) (hs : Small s) : G y s = y.getD (ctz s) 0 ||| G y (clr s) := by
 obtain ⟨m, hm, hk⟩ := ctz_form s h0 hs
 have h := G_step y (ctz s) m (by omega)
 rw [← hm] at h
 exact h
theorem clr_bits (s : Nat) (h0 : s ≠ 0) (hs : Small s) : bits BinOp.andNot IntKind.u64 (s : Int) (IntKind.u64.wrap (2 ^ min (ctz s) 64)) = ((clr s : Nat) : Int) := by
 obtain ⟨m, hm, hk⟩ := ctz_form s h0 hs
 have hk64 : min (ctz s) 64 = ctz s := by omega
 have hp : 2 ^ ctz s ≤ 2 ^ 33 := Nat.pow_le_pow_right (by decide) (by omega)
 have e33 : (2 : Nat) ^ 33 = 8589934592 := by decide
 have hw : IntKind.u64.wrap ((2 : Int) ^ ctz s) = ((2 ^ ctz s : Nat) : Int) := by
  rw [IntKind.wrap_u64]
  have : ((2 : Int) ^ ctz s) = ((2 ^ ctz s : Nat) : Int) := by simp
  rw [this]
  generalize 2 ^ ctz s = q at *
  omega
 unfold Small at hs
 rw [hk64, hw, u64_andNot_nat s _ (by omega) (by omega)]
 congr 1
 generalize hj : ctz s = j at *
 have h64 : 2 ^ j < 2 ^ 64 := Nat.pow_lt_pow_right (by decide) (by omega)
 have hclr : clr s = 2 ^ (j + 1) * m := by
  unfold clr; rw [hj]; conv => lhs; rw [hm]
  rw [Nat.pow_succ, Nat.mul_add, Nat.mul_one, Nat.add_sub_cancel, Nat.mul_assoc]
 apply Nat.eq_of_testBit_eq
 intro i
 rw [show 18446744073709551615 - 2 ^ j = 2 ^ 64 - (2 ^ j + 1) by rw [show (2 : Nat) ^ 64 = 18446744073709551616 by decide]; omega]
 rw [Nat.testBit_and, Nat.testBit_two_pow_sub_succ h64, Nat.testBit_two_pow, hclr, Nat.testBit_two_pow_mul]
 have hsb : s.testBit i = (decide (j ≤ i) && (2 * m + 1).testBit (i - j)) := by
  conv => lhs; rw [hm, Nat.testBit_two_pow_mul]
 rw [hsb]
 by_cases h1 : i < j
 ·have : ¬ j ≤ i := by omega
  have h2 : ¬ j + 1 ≤ i := by omega
  simp [this, h2]
 ·by_cases h2 : i = j
  ·subst h2
   simp only [Nat.lt_irrefl, decide_true, Bool.not_true, Bool.and_false, ge_iff_le]
   simp
   omega
  ·have e : i - j = (i - (j + 1)) + 1 := by omega
   have h3 : j ≤ i := by omega
   have h4 : j + 1 ≤ i := by omega
   have h5 : ¬ j = i := by omega
   rw [e, Nat.testBit_succ, show (2 * m + 1) / 2 = m by omega]
   simp only [h3, h4, h5, decide_true, decide_false, Bool.true_and, Bool.not_false, Bool.and_true]
   by_cases h6 : i < 64
   ·simp [h6]
   ·have : m.testBit (i - (j + 1)) = false := by
     apply Nat.testBit_lt_two_pow
     have h7 : m < 2 ^ (33 - (j + 1)) := by
      have h8 : 2 ^ (j + 1) * m ≤ clr s := by rw [hclr]; exact rr
      have h9 : clr s < 2 ^ 33 := by rw [e33]; have := Nat.sub_le s (2 ^ ctz s); unfold clr; omega
      have h10 : 2 ^ 33 = 2 ^ (j + 1) * 2 ^ (33 - (j + 1)) := by rw [← Nat.pow_add]; congr 1; omega
      rw [h10] at h9
      exact Nat.lt_of_mul_lt_mul_left (Nat.lt_of_le_of_lt h8 h9)
     exact Nat.lt_of_lt_of_le h7 (Nat.pow_le_pow_right (by decide) (by omega))
    simp [this]
theorem all1_iter (m l bs s0 : Nat) (hm : 1 ≤ m) (J Jx : Nat → World → Prop) (W : World)
  (hst : ∀ s v W, J s W → J s (W.setCell ⟨bs, 0, none⟩ v)) (hdr : ∀ s W, J s W → J s W.drew) (hT : ∀ s W, J s W → TabOK W)
  (hy : ∀ s W, s ≠ 0 → Small s → J s W → YieldAt Fence.wide (m - 1) Tryz.prog l #[.int .i64 (ctz s)] W (fun e W' =>
   (e = .returned (.bool true) ∧ J (clr s) W' ∧ W'.heap[bs]? = W.heap[bs]?) ∨ (e = .returned (.bool false) ∧ Jx (clr s) W')))
  (h0 : J s0 W) (hb : W.heap[bs]? = some (.cells #[.int .u64 (s0 : Int)] 264 (0, 0))) (hs : Small s0) :
  CallsIn Fence.wide m Tryz.prog 243 #[.func (.yield l) #[] #[], .pointer (some ⟨bs, 0, none⟩)] W fun e W' => (∃ v, e = .returned v) ∧ (J 0 W' ∨ ∃ s, Jx s W') := by
 have Hst := hI hst; clear hst
 have Hdr := hI hdr; clear hdr
 have HT := hI hT; clear hT
 have Hy := hI hy; clear hy
 have H0 := hI h0; clear h0
 have HB := hI hb; clear hb
 have HS := hI hs; clear hs
 refine callsIn_of_wp Tryz.func243 rfl trivial ?_
 simp only [Tryz.ntmps243, List.size_toArray, List.length_cons, List.length_nil, Nat.reduceAdd, Nat.reduceSub, Array.replicate_succ, Array.replicate_zero, List.push_toArray, List.append_toArray, List.nil_append, List.cons_append]
 gi_wp2
 gi_loopw [3] (fun _ wr => ∃ s : Nat, Hid (Small s) ∧ Hid (wr.heap[bs]? = some (.cells #[.int .u64 (s : Int)] 264 (0, 0))) ∧ Hid (J s wr))
  (fun _ wr => match wr.cell? ⟨bs, 0, none⟩ with | some (.int _ q) => q.toNat | _ => 0)
 case atStart => exact ⟨s0, HS, HB, H0⟩
 case round =>
  obtain ⟨s, hs, hb, hj⟩ := hrel
  have hc := cell_of_one hb.out
  have hf := free_of_one hb.out
  by_cases h0 : s = 0
  ·subst h0
   gi_wp2
   go_end0
   exact ⟨⟨_, rfl⟩, .inl hj.out⟩
  ·have hne : ((s : Int) != 0) = true := by simp; exact h0
   have HNE := hI h0; clear h0
   gi_wp2_with (refine ⟨trivial, ?_⟩; gi_at_call 244; refine (callsIn_wide.2 (tz_c s _ HNE.out hs.out (HT.out s _ hj.out))).mono ?_; rintro e w1 ⟨rfl, rfl⟩)
   have hv := clr_bits s HNE.out hs.out
   gi_region
   clear hv hc hf
   have hj2 := Hdr.out _ _ (Hst.out s (.int .u64 (clr s : Int)) _ hj.out)
   obtain ⟨fn, tmps, assign, body, hyr, hR⟩ := Hy.out s _ HNE.out hs.out hj2
   have HR := hI hR; clear hR
   gi_wp2
   refine HR.out.mono ?_
   have hb2 := one_setCell (u := .int .u64 (clr s : Int)) hb.out
   rintro e W3 (⟨rfl, hJ3, hb3⟩ | ⟨rfl, hJx⟩)
   ·have HJ3 := hI hJ3; clear hJ3
    have HB3 := hI (hb3.trans hb2); clear hb3 hb2
    have hcl := clr_lt s HNE.out
    have hcw := cell_of_one HB3.out
    have hcr := cell_of_one hb.out
    gi_wp2
    go_roundw
    case rel => exact ⟨clr s, clr_small s hs.out, HB3, HJ3⟩
    case measure => rw [hcw, hcr]; simp only [Int.toNat_natCast]; exact hcl
   ·gi_wp2
    refine bodyPost_ret (results_none rfl _ _ _) rfl ?_
    exact ⟨⟨_, rfl⟩, .inr ⟨_, hJx⟩⟩
theorem all_c (s : Nat) (w : World) :
  Calls Tryz.prog 239 #[.int .u64 (s : Int)] w fun e w' => e = .returned (.func (.func 243) #[] #[.pointer (some ⟨w.heap.size, 0, none⟩)]) ∧ w.alloc (.cells #[.int .u64 (s : Int)] 264) = w' := by
 go_enter Tryz.func239, Tryz.ntmps239
 go_wp2
 go_ret
 exact ⟨rfl, rfl⟩
theorem RelAt.putObj {w : World} {b l : Nat} {o : Obj} {r : List Nat} (h : RelAt w b r) (hl : b ≠ l) : RelAt (w.putObj l o) b r := ⟨(World.putObj_heap_other hl).trans h.1, h.2⟩
theorem RelAt.keep {S : Nat → Prop} {w w' : World} {b : Nat} {r : List Nat} (h : RelAt w b r) (hk : Keep S w w') (hb : ¬ S b) : RelAt w' b r := ⟨(hk.block b h.lt hb).trans h.1, h.2⟩
theorem RelAt.set {w : World} {b k s : Nat} {r : List Nat} (h : RelAt w b r) : RelAt (w.setCell ⟨b, k, none⟩ (.int .u64 (s : Int))) b (r.set k s) := by
 refine ⟨?_, by rw [List.length_set]; exact h.2⟩
 have hb := h.1
 simp only [World.setCell, Array.getElem?_modify, hb]
 simp [rarr]
theorem RelAt.frozen {w : World} {b : Nat} {r : List Nat} (h : RelAt w b r) (k : Nat) : w.frozen? ⟨b, k, none⟩ = false := by
 simp [World.frozen?, h.1]
theorem small_or {a b : Nat} (ha : Small a) (hb : Small b) : Small (a ||| b) := by
 unfold Small at *
 rw [show 8589934592 = 2 ^ 33 by decide] at *
 exact Nat.or_lt_two_pow ha hb
theorem or_bits (a b : Nat) (ha : Small a) (hb : Small b) : bits BinOp.or IntKind.u64 (a : Int) (b : Int) = ((a ||| b : Nat) : Int) := by
 unfold Small at *
 exact u64_or_nat a b (by omega) (by omega)
theorem small_zero : Small 0 := by unfold Small; omega
theorem G_small : ∀ (y : List Nat) (s : Nat), (∀ v ∈ y, Small v) → Small (G y s)
 | [], _, _ => small_zero
 | v :: ys, s, h => by
  refine small_or ?_ (G_small ys _ fun u hu => h u (List.mem_cons_of_mem _ hu))
  split
  ·exact h v (List.mem_cons_self ..)
  ·exact small_zero
theorem then_c (bx by_ : Nat) (x y : List Nat) (w : World) (hx : RelAt w bx x) (hy : RelAt w by_ y) (hT : TabOK w) (hs : ∀ s ∈ x, Small s) (hsy : ∀ s ∈ y, Small s) :
  Calls Tryz.prog 267 #[.pointer (some ⟨bx, 0, none⟩), .pointer (some ⟨by_, 0, none⟩)] w fun e w' => e = .returned (.agg (rarr (thenM x y))) ∧ Below w.heap.size w w' := by
 have HX := hI hx; clear hx
 have HY := hI hy; clear hy
 have HT := hI hT; clear hT
 have HS := hI hs; clear hs
 have HSY := hI hsy; clear hsy
 refine (callsIn_wide (n := 9)).1 (callsIn_of_wp_marks Tryz.func267 rfl trivial ?_ rfl)
 simp only [Tryz.ntmps267, List.size_toArray, List.length_cons, List.length_nil, Nat.reduceAdd, Nat.reduceSub, Array.replicate_succ, Array.replicate_zero, List.push_toArray, List.append_toArray, List.nil_append, List.cons_append]
 gi_wp2
 refine wpIn_loop (fun a' wr => ∃ (k : Nat) (r : List Nat) (ds : List Deferred) (u6 u7 u8 u11 u12 u13 u14 u15 u16 u17 u18 u19 u20 u21 u22 u23 u24 u25 u26 u27 u28 u29 : Value),
   a' = { tmps := #[.pointer (some ⟨bx, 0, none⟩), .pointer (some ⟨by_, 0, none⟩), undef, .pointer (some ⟨w.heap.size, 0, none⟩), .pointer (some ⟨w.heap.size + 1, 0, none⟩), .pointer (some ⟨w.heap.size + 1 + 1, 0, none⟩), u6, u7, u8, .pointer (some ⟨bx, 0, none⟩), .int .i64 k, u11, u12, u13, u14, u15, u16, u17, u18, u19, u20, u21, u22, u23, u24, u25, u26, u27, u28, u29, undef], defers := ds } ∧
   k ≤ 33 ∧ Marks w.heap.size wr ds ∧ RelAt wr (w.heap.size + 1 + 1) r ∧ r = (x.take k).map (G y) ++ List.replicate (33 - k) 0 ∧
   wr.heap[w.heap.size]? = some (.cells #[.pointer (some ⟨by_, 0, none⟩)] 304 (0, 0)) ∧ wr.heap[w.heap.size + 1]? = some (.cells (rarr zeroR) 266 (0, 0)) ∧ Below w.heap.size w wr)
  (fun a' _ => 33 - (intOf (a'.tmps.getD 10 undef)).toNat) ?start ?round
 case start =>
  exact ⟨0, zeroR, [], _, _, _, _, _, _, _, _, _, _, _, _, _, _, _, _, _, _, _, _, _, _, rfl, by omega, trivial, ⟨hpt, rfl⟩, rfl, hpt, hpt, bel⟩
 case round =>
  rintro _ wr ⟨k, r, ds, u6, u7, u8, u11, u12, u13, u14, u15, u16, u17, u18, u19, u20, u21, u22, u23, u24, u25, u26, u27, u28, u29, rfl, hk, hM, hr, hrk, hyb, hrb, hB⟩
  have HM := hI hM; clear hM
  have HR := hI hr; clear hr
  have HRK := hI hrk; clear hrk
  have HYB := hI hyb; clear hyb
  have HRB := hI hrb; clear hrb
  have hxl := HX.out.2
  by_cases hlt : k < 33
  ·obtain ⟨s, hsk⟩ : ∃ s, x[k]? = some s := ⟨x[k], List.getElem?_eq_getElem (by omega)⟩
   have hcx : wr.cell? ⟨bx, k, none⟩ = some (.int .u64 (s : Int)) := (HX.out.below hB rr).get hsk
   have hbx : bx < wr.heap.size := (HX.out.below hB rr).lt
   have HSK := hI hsk; clear hsk
   have HXL := hI hxl; clear hxl
   gi_wp2
   gi_region
   gi_wp2_with (refine ⟨trivial, ?_⟩; gi_at_call 239; refine (callsIn_wide.2 (all_c _ _)).mono ?_; rintro e w1 ⟨rfl, rfl⟩)
   have hW0s : (((wr.alloc (.cells #[.int .i64 (k : Int)] 3)).alloc (.cells #[.int .u64 (s : Int)] 264)).drew).heap.size = wr.heap.size + 1 + 1 := by simp
   have hA0 : (((wr.alloc (.cells #[.int .i64 (k : Int)] 3)).alloc (.cells #[.int .u64 (s : Int)] 264)).drew).heap[wr.heap.size]? = some (.cells #[.int .i64 (k : Int)] 3 (0, 0)) := hpt
   have hS0 : (((wr.alloc (.cells #[.int .i64 (k : Int)] 3)).alloc (.cells #[.int .u64 (s : Int)] 264)).drew).heap[wr.heap.size + 1]? = some (.cells #[.int .u64 (s : Int)] 264 (0, 0)) := hpt
   have hK0 : Keep (fun _ => False) wr (((wr.alloc (.cells #[.int .i64 (k : Int)] 3)).alloc (.cells #[.int .u64 (s : Int)] 264)).drew) := (((Keep.refl _ _).alloc _).alloc _).drew
   generalize (((wr.alloc (.cells #[.int .i64 (k : Int)] 3)).alloc (.cells #[.int .u64 (s : Int)] 264)).drew) = W0 at *
   refine wide_range (gf := 243) (lb := #[.pointer (some ⟨wr.heap.size + 1, 0, none⟩)]) rfl (enters_of Tryz.func243 (by kernel_rfl) rfl) fun fn D l rc W1 hrc hD hl hK1 hD1 hl1 hs1 => ?_
   have hlg : wr.heap.size + 1 + 1 < l := by omega
   have hW0g : wr.heap.size + 1 < W0.heap.size := by omega
   have hDg : wr.heap.size + 1 < D := by omega
   have hDl : D < l := by omega
   have hlW : l < W1.heap.size := by omega
   have HRC := hI hrc; clear hrc
   have HE := hI (And.intro hD (And.intro hl (And.intro hs1 hW0s))); clear hD hl hs1 hW0s
   have hRW1 : RelAt W1 (w.heap.size + 1 + 1) r := (HR.out.keep hK0 (by simp)).keep hK1 (by simp)
   have hrl := hRW1.lt
   have hrb : w.heap.size + 1 + 1 < wr.heap.size := HR.out.lt
   have hS1 : W1.heap[wr.heap.size + 1]? = some (.cells #[.int .u64 (s : Int)] 264 (0, 0)) := (hK1.block _ (by omega) (by simp)).trans hS0
   refine (all1_iter (9 - 1) l (wr.heap.size + 1) s (by omega)
    (fun s' W => ∃ o, RelAt W (w.heap.size + 1 + 1) (r.set k o) ∧ Small o ∧ o ||| G y s' = G y s ∧ Keep (fun j => j = w.heap.size + 1 + 1 ∨ j = wr.heap.size + 1 ∨ j = l) W1 W ∧ W.heap[l]? = some (.loop (rc .ready none)))
    (fun _ _ => False) W1 ?st ?dr ?tab ?yield ?zero hS1 (HS.out s (List.mem_of_getElem? HSK.out))).mono ?_
   case st =>
    rintro s' v W ⟨o, h1, h2, h3, h4, h5⟩
    refine ⟨o, ⟨(Below.heap_setCell _ _ _ _ (by simp; omega)).trans h1.1, h1.2⟩, h2, h3, h4.setCell (by simp) _, (Below.heap_setCell _ _ _ _ (by simp; omega)).trans h5⟩
   case dr =>
    rintro s' W ⟨o, h1, h2, h3, h4, h5⟩
    exact ⟨o, h1, h2, h3, h4.drew, h5⟩
   case tab =>
    rintro s' W ⟨o, h1, h2, h3, h4, h5⟩
    have hg := HT.out.1
    exact (((HT.out.below hB rr).keep hK0 (by simp)).keep hK1 (by simp)).keep h4 (by omega)
   case zero =>
    refine ⟨0, ?_, small_zero, by simp, Keep.refl _ _, hl1⟩
    have hr0 : r.set k 0 = r := by
     have hlk : ((x.take k).map (G y)).length = k := by rw [List.length_map, List.length_take, HXL.out]; omega
     rw [HRK.out, show 33 - k = (33 - (k + 1)) + 1 by omega, List.replicate_succ, List.set_append, if_neg (by omega), hlk, Nat.sub_self, List.set_cons_zero]
    rw [hr0]; exact hRW1
   case yield =>
    rintro s' W hne hsm ⟨o, h1, h2, h3, h4, h5⟩
    refine wide_round HRC.out h5 rfl ?_
    have hbl : ctz s' < 33 := ctz_lt s' hne hsm
    have H5 := hI h5; clear h5
    have H3 := hI h3; clear h3
    have H1 := hI h1; clear h1
    have H4 := hI h4; clear h4
    have H2 := hI h2; clear h2
    gi_wp2
    refine ⟨H5.out, ?_⟩
    have hll : l < W.heap.size := (Array.getElem?_eq_some_iff.1 H5.out).1
    have hV1 : (W.putObj l (.loop (rc .busy none))).heap[l]? = some (.loop (rc .busy none)) := World.putObj_heap_same hll
    have hKV : Keep (fun j => j = w.heap.size + 1 + 1 ∨ j = wr.heap.size + 1 ∨ j = l) W1 (W.putObj l (.loop (rc .busy none))) := H4.out.putObj (by simp) _
    have hRV : RelAt (W.putObj l (.loop (rc .busy none))) (w.heap.size + 1 + 1) (r.set k o) := H1.out.putObj (by omega)
    have hbs : (W.putObj l (.loop (rc .busy none))).heap[wr.heap.size + 1]? = W.heap[wr.heap.size + 1]? := World.putObj_heap_other (by omega)
    generalize W.putObj l (.loop (rc .busy none)) = V at *
    have hA1 : V.heap[wr.heap.size]? = some (.cells #[.int .i64 (k : Int)] 3 (0, 0)) := (hKV.block _ (by omega) (by omega)).trans ((hK1.block _ (by omega) (by simp)).trans hA0)
    have hY1 : V.heap[w.heap.size]? = some (.cells #[.pointer (some ⟨by_, 0, none⟩)] 304 (0, 0)) :=
     (hKV.block _ (by omega) (by omega)).trans ((hK1.block _ (by omega) (by simp)).trans ((hK0.block _ (by omega) (by simp)).trans HYB.out))
    have hyr : RelAt wr by_ y := HY.out.below hB rr
    have hyw : by_ < w.heap.size := HY.out.lt
    have hyV : RelAt V by_ y := ((hyr.keep hK0 (by simp)).keep hK1 (by simp)).keep hKV (by omega)
    obtain ⟨yv, hyv⟩ : ∃ yv, y[ctz s']? = some yv := ⟨y[ctz s']'(by have := hyr.2; omega), List.getElem?_eq_getElem _⟩
    have hyo : (r.set k o)[k]? = some o := by rw [List.getElem?_set_self (by have := hRV.2; rw [List.length_set] at this; omega)]
    have c1 := cell_of_one hA1
    have c2 := cell_of_one hY1
    have c3 := hyV.get hyv
    have c4 := hRV.get hyo
    have c5 := hRV.frozen k
    have hor := or_bits o yv H2.out (HSY.out yv (List.mem_of_getElem? hyv))
    have HYV := hI hyv; clear hyv
    clear hA1 hY1 hyr hyw hyo
    have HyV := hI hyV; clear hyV
    have HRV := hI hRV; clear hRV
    have HKV := hI hKV; clear hKV
    have HV1 := hI hV1; clear hV1
    have HBS := hI hbs; clear hbs
    gi_wp2
    refine round_region (fun W' => W'.cell? ⟨wr.heap.size, 0, none⟩ = some (.int .i64 (k : Int)) ∧ W'.cell? ⟨w.heap.size, 0, none⟩ = some (.pointer (some ⟨by_, 0, none⟩)) ∧ W'.cell? ⟨by_, ctz s', none⟩ = some (.int .u64 (yv : Int)) ∧ W'.cell? ⟨w.heap.size + 1 + 1, k, none⟩ = some (.int .u64 (o : Int))) (by kernel_rfl) (by kernel_rfl) (fun _ _ h => by exact h) ⟨c1, c2, c3, c4⟩ (fun hHeld => ?_)
    have hbl' : ((ctz s' : Nat) : Int) < 33 := by omega
    (refine' anyT_tk 0 rfl ?_; (try simp only [Act.put, nY, nX])); (refine' anyT_tk 1 rfl ?_; (try simp only [Act.put, nY, nX])); (refine' anyT_tk 2 rfl ?_; (try simp only [Act.put, nY, nX])); (refine' anyT_tk 3 rfl ?_; (try simp only [Act.put, nY, nX])); (refine' anyT_tk 4 rfl ?_; (try simp only [Act.put, nY, nX])); (refine' anyT_tk 5 rfl ?_; (try simp only [Act.put, nY, nX])); (refine' anyT_tk 6 rfl ?_; (try simp only [Act.put, nY, nX])); (refine' anyT_tk 7 rfl ?_; (try simp only [Act.put, nY, nX])); (refine' anyT_tk 8 rfl ?_; (try simp only [Act.put, nY, nX])); (refine' anyT_tk 9 rfl ?_; (try simp only [Act.put, nY, nX]))
    (refine anyT_sp 10 rfl (fun K' hK' => ?_); simp only [nY]; go_simp)
    refine hK' _ _ ⟨.inl (by kernel_rfl), fun _ => anyT_done (by kernel_rfl) ?_ _⟩
    simp only [Exit.inBlock]
    have hbk : (V.setCell ⟨w.heap.size + 1 + 1, k, none⟩ (.int .u64 ((o ||| yv : Nat) : Int))).drew.heap[l]? = some (.loop (rc .busy none)) := (Below.heap_setCell _ _ _ _ (by simp; omega)).trans HV1.out
    have hrs : RelAt (V.setCell ⟨w.heap.size + 1 + 1, k, none⟩ (.int .u64 ((o ||| yv : Nat) : Int))).drew (w.heap.size + 1 + 1) (r.set k (o ||| yv)) := by
     have := (HRV.out.set (k := k) (s := o ||| yv))
     rw [List.set_set] at this
     exact this
    refine ⟨hbk, rfl, ⟨o ||| yv, hrs.putObj (by omega), small_or H2.out (HSY.out yv (List.mem_of_getElem? HYV.out)), ?_, ((HKV.out.setCell (by simp) _).drew).putObj (by simp) _, World.putObj_heap_same (Array.getElem?_eq_some_iff.1 hbk).1⟩, ?_⟩
    ·have hg := G_clr y HyV.out.2 s' hne hsm
     have hy0 : y.getD (ctz s') 0 = yv := by rw [List.getD_eq_getElem?_getD, HYV.out]; rfl
     rw [hy0] at hg
     rw [Nat.or_assoc, ← hg]
     exact H3.out
    ·rw [World.putObj_heap_other (by omega)]
     exact (Below.heap_setCell _ _ _ _ (by simp; omega)).trans HBS.out
   ·rintro e W' ⟨⟨v, rfl⟩, ⟨o, h1, h2, h3, h4, h5⟩ | ⟨s', hf⟩⟩
    ·refine .inl ⟨h5, ?_⟩
     rw [G_zero, Nat.or_zero] at h3
     have hKf : Keep (fun j => j = w.heap.size + 1 + 1 ∨ j = wr.heap.size + 1 ∨ j = l) W1 (W'.putObj l (.loop (rc .exhausted none))) := h4.putObj (by simp) _
     have hRf : RelAt (W'.putObj l (.loop (rc .exhausted none))) (w.heap.size + 1 + 1) (r.set k o) := h1.putObj (by omega)
     generalize W'.putObj l (.loop (rc .exhausted none)) = V at *
     have HKf := hI hKf; clear hKf
     have HRf := hI hRf; clear hRf
     have H3 := hI h3; clear h3 h4 h1 h5
     gi_wp2
     have hkw : ∀ j, j < wr.heap.size → j ≠ w.heap.size + 1 + 1 → V.heap[j]? = wr.heap[j]? := fun j hj hn =>
      (HKf.out.block j (by have := hK1.size; have := hK0.size; omega) (by omega)).trans ((hK1.block j (by omega) (by simp)).trans (hK0.block j hj (by simp)))
     refine ⟨⟨k + 1, r.set k o, mark D :: ds, ⟨by omega, rfl⟩, by omega, ⟨D, rfl, by omega, (HKf.out.block D (by omega) (by omega)).trans hD1, fun D' hm => ?_, HM.out.mono fun D' hm hd => ?_⟩, HRf.out, ?_,
      (hkw _ (by omega) (by omega)).trans HYB.out, (hkw _ (by omega) (by omega)).trans HRB.out, ?_⟩, by simp [intOf]; omega⟩
     ·have := (Array.getElem?_eq_some_iff.1 (HM.out.at_ D' hm).1).1; omega
     ·have h6 := (Array.getElem?_eq_some_iff.1 hd).1
      refine (hkw D' h6 ?_).trans hd
      rintro rfl
      have h7 := HR.out.1
      rw [hd] at h7; cases h7
     ·rw [HRK.out, H3.out, ← List.map_take]
      have hxk : (x.take (k + 1)).map (G y) = (x.take k).map (G y) ++ [G y s] := by rw [take_snoc' x k s HSK.out, List.map_append]; rfl
      have hlk : ((x.take k).map (G y)).length = k := by rw [List.length_map, List.length_take, HXL.out]; omega
      rw [hxk, show 33 - k = (33 - (k + 1)) + 1 by omega, List.replicate_succ, List.set_append, if_neg (by omega), hlk, Nat.sub_self]
      simp
     ·refine ⟨?_, ?_, ?_, ?_, fun j hj => (hkw j (by omega) (by omega)).trans (hB.block j hj)⟩
      ·exact (HKf.out.os.trans (hK1.os.trans hK0.os)).trans hB.os
      ·exact (HKf.out.tape.trans (hK1.tape.trans hK0.tape)).trans hB.tape
      ·exact (HKf.out.output.trans (hK1.output.trans hK0.output)).trans hB.output
      ·have := HKf.out.size; have := hK1.size; have := hK0.size; have := hB.size; omega
    ·exact hf.elim
  ·obtain rfl : k = 33 := by omega
   have hrx : r = thenM x y := by rw [HRK.out, List.take_of_length_le (by omega)]; simp [thenM]
   have hsz : (Tryz.prog.info? 266).map (·.size) = some (rarr r).size := by
    rw [show (rarr r).size = 33 by simp [rarr, HR.out.2]]; kernel_rfl
   have hsz0 : (rarr zeroR).size = (rarr r).size := by simp [rarr, HR.out.2, zeroR]
   have h1c : (rarr r).all (·.oneCell') = true := by simp [rarr, Array.all_eq_true]; intros; rfl
   have HSZ := hI hsz; clear hsz
   have HSZ0 := hI hsz0; clear hsz0
   have H1C := hI h1c; clear h1c
   have HRX := hI hrx; clear hrx
   refine wpIn_wide.2 ?_
   go_wp2
   refine wpIn_wide.2 ?_
   go_wp2_with (first
    | (refine wpList_load_row rfl 266 (.tmp 5) rfl (w.heap.size + 1 + 1) rfl 266 (rarr r) (0, 0) _ HR.out.1 Tryz.underlying266 rfl HSZ.out ?_)
    | (refine wpList_store_row rfl 266 (.tmp 4) (.tmp 30) rfl (w.heap.size + 1) (rarr r) rfl rfl 266 (rarr zeroR) HRB.out HSZ.out HSZ0.out H1C.out ?_))
   have hset := setRow_heap wr (w.heap.size + 1) _ (rarr r) 266 (0, 0) HRB.out
   have hbel : Below w.heap.size w (wr.setRow (w.heap.size + 1) (rarr r)) := below_setRow hB (by omega) _
   have hmk : Marks w.heap.size (wr.setRow (w.heap.size + 1) (rarr r)) ds := HM.out.mono fun D' hm hd => by
    rw [setRow_other _ _ _ _ (by rintro rfl; rw [HRB.out] at hd; cases hd)]; exact hd
   refine post_ret (B := w.heap.size) hmk fun w' hw' => ⟨.agg (rarr r), results_cell_row (p := 4) Tryz.results267 _ _ (w.heap.size + 1) 266 (rarr r) (0, 0) _ rfl (hw'.row hset) Tryz.underlying266 rfl HSZ.out, ?_, hbel.trans hw'.below⟩
   rw [HRX.out]
end Go.Proofs.YtaglfmlgbcmakaaGreatDoor
namespace Go.Proofs.YtaglfmlgbcmakaaGreatDoor
open Go.RowKit
theorem rel_size {r : List Nat} (h : r.length = 33) : (Tryz.prog.info? 266).map (·.size) = some (rarr r).size := by
 rw [show (rarr r).size = 33 by simp [rarr, h]]; kernel_rfl
theorem rel_one (r : List Nat) : (rarr r).all (·.oneCell') = true := by simp [rarr, Array.all_eq_true]; intros; rfl
theorem RelAt.alloc {w : World} {b : Nat} {r : List Nat} (h : RelAt w b r) (o : Obj) : RelAt (w.alloc o) b r := ⟨(Below.heap_alloc _ _ _ h.lt).trans h.1, h.2⟩
theorem RelAt.drew {w : World} {b : Nat} {r : List Nat} (h : RelAt w b r) : RelAt w.drew b r := h
theorem RelAt.keep1 {w w' : World} {b c : Nat} {r : List Nat} (h : RelAt w b r) (hk : Keep (· = c) w w') (hb : b ≠ c) : RelAt w' b r := h.keep hk hb
theorem keep_below {w0 w w' : World} {B b : Nat} (hB : Below B w0 w) (hk : Keep (· = b) w w') (hb : B ≤ b) (hs : B ≤ w.heap.size) : Below B w0 w' :=
 hB.trans (hk.to_below (fun k h => by subst h; exact hb) hs)
theorem load_rel {ops : Array Oper} {rest : List Oper} {o : Oper} {a : Act} {w : World} {Q : Exit → Act → World → Prop} (hgd : o.guard = none) (x : Operand) (ho : o.op = .load 266 x)
  (b : Nat) (r : List Nat) (hx : a.eval x = .pointer (some ⟨b, 0, none⟩)) (hr : RelAt w b r) (h : wpList Tryz.prog ops Q rest (a.put o.dst (.agg (rarr r))) w) : wpList Tryz.prog ops Q (o :: rest) a w :=
 wpList_load_row hgd 266 x ho b hx 266 (rarr r) (0, 0) _ hr.1 Tryz.underlying266 rfl (rel_size hr.2) h
theorem store_rel {ops : Array Oper} {rest : List Oper} {o : Oper} {a : Act} {w : World} {Q : Exit → Act → World → Prop} (hgd : o.guard = none) (x y : Operand) (ho : o.op = .store 266 x y)
  (b : Nat) (r0 r : List Nat) (hx : a.eval x = .pointer (some ⟨b, 0, none⟩)) (hy : a.eval y = .agg (rarr r)) (hr : RelAt w b r0) (hl : r.length = 33)
  (h : ∀ w', RelAt w' b r → Keep (· = b) w w' → w'.heap.size = w.heap.size → wpList Tryz.prog ops Q rest (a.put o.dst undef) w') : wpList Tryz.prog ops Q (o :: rest) a w := by
 refine wpList_store_row hgd 266 x y ho b (rarr r) hx hy 266 (rarr r0) hr.1 (rel_size hl) (by simp [rarr, hl, hr.2]) (rel_one r) (h _ ⟨setRow_heap _ _ _ _ _ _ hr.1, hl⟩ ⟨rfl, rfl, rfl, by simp, fun k _ hk => setRow_other _ _ _ _ hk⟩ (by simp))
theorem results_rel {fn : Func} {p : Tmp} (h : fn.results = #[.cell p 266]) (tmps : Array Value) (w : World) (b : Nat) (r : List Nat) (hp : tmps.getD p undef = .pointer (some ⟨b, 0, none⟩)) (hr : RelAt w b r) :
  (results fn tmps).run Tryz.prog w = .ok (.agg (rarr r)) w :=
 results_cell_row h tmps w b 266 (rarr r) (0, 0) _ hp hr.1 Tryz.underlying266 rfl (rel_size hr.2)
def idR (n : Nat) : List Nat := (List.range 33).map fun k => if k ≤ n then 2 ^ k else 0
def idTo (n j : Nat) : List Nat := (List.range 33).map fun k => if k ≤ n ∧ k < j then 2 ^ k else 0
theorem idTo_zero (n : Nat) : idTo n 0 = zeroR := by
 have h : idTo n 0 = (List.range 33).map fun _ => 0 := List.map_congr_left fun j _ => by rw [if_neg (by omega)]
 rw [h]; rfl
theorem shl_one (k : Nat) (hk : k < 33) : IntKind.u64.wrap (2 ^ min k 64) = ((2 ^ k : Nat) : Int) := by
 have hp : 2 ^ k ≤ 2 ^ 33 := Nat.pow_le_pow_right (by decide) (by omega)
 have e33 : (2 : Nat) ^ 33 = 8589934592 := by decide
 rw [IntKind.wrap_u64, show min k 64 = k by omega]
 have : ((2 : Int) ^ k) = ((2 ^ k : Nat) : Int) := by simp
 rw [this]
 generalize 2 ^ k = q at *
 omega
theorem shl_one' (k : Nat) (hk : k < 33) : IntKind.u64.wrap (2 ^ k) = ((2 ^ k : Nat) : Int) := by
 have := shl_one k hk; rwa [show min k 64 = k by omega] at this
theorem range_set (f g : Nat → Nat) (m j v : Nat) (hj : g j = v) (h : ∀ k, k ≠ j → g k = f k) : ((List.range m).map f).set j v = (List.range m).map g := by
 apply List.ext_getElem?
 intro i
 rw [List.getElem?_set]
 simp only [List.getElem?_map, List.length_map, List.length_range]
 by_cases hi : i < m
 ·by_cases e : j = i
  ·subst e; simp [hi, hj]
  ·rw [if_neg e, List.getElem?_range hi]; simp [h i (Ne.symm e)]
 ·have : (List.range m)[i]? = none := List.getElem?_eq_none (by simp; omega)
  rw [this]
  by_cases e : j = i
  ·subst e; simp [hi]
  ·simp [e]
theorem identity_c (n : Nat) (w : World) (hn : n ≤ 32) :
  Calls Tryz.prog 266 #[.int .i64 (n : Int)] w fun e w' => e = .returned (.agg (rarr (idR n))) ∧ Below w.heap.size w w' := by
 go_enter Tryz.func266, Tryz.ntmps266
 go_wp2
 go_loopw [4, 7] (fun _ i wr => ∃ k : Nat, k ≤ n + 1 ∧ i = .int .i64 k ∧ Hid (RelAt wr (w.heap.size + 1) (idTo n k)) ∧ Hid (RelAt wr w.heap.size zeroR) ∧ Below w.heap.size w wr) (fun _ i _ => n + 1 - (intOf i).toNat)
 case atStart => exact ⟨0, by omega, rfl, by rw [idTo_zero]; exact ⟨hpt, rfl⟩, ⟨hpt, rfl⟩, bel⟩
 case round =>
  obtain ⟨k, hk, rfl, hr, hz, hB⟩ := hrel
  by_cases hlt : k < n + 1
  ·have hs : ((k : Nat) : Int) < 33 := by omega
   have HSL := hI (shl_one' k (by omega))
   have hf := hr.out.frozen k
   have hc := hr.out.get (k := k) (s := 0) (by unfold idTo; rw [List.getElem?_map, List.getElem?_range (by omega)]; simp)
   go_wp2
   go_roundw
   case rel =>
    refine ⟨k + 1, by omega, by go_num, ?_, ?_, bel⟩
    ·have h1 := hr.out.set (k := k) (s := 2 ^ k)
     have h2 : (idTo n k).set k (2 ^ k) = idTo n (k + 1) := by
      refine range_set _ _ _ _ _ ?_ ?_
      ·rw [if_pos ⟨by omega, by omega⟩]
      ·intro j hj
       by_cases h3 : j ≤ n ∧ j < k
       ·rw [if_pos h3, if_pos ⟨h3.1, by omega⟩]
       ·rw [if_neg h3, if_neg (by omega)]
     rw [h2] at h1; rw [HSL.out]; exact h1
    ·exact ⟨(Below.heap_setCell _ _ _ _ (by simp)).trans hz.out.1, rfl⟩
   case measure => simp [intOf]; omega
  ·obtain rfl : k = n + 1 := by omega
   have hid : idTo n (n + 1) = idR n := by unfold idTo idR; apply List.map_congr_left; intro j _; by_cases h : j ≤ n <;> simp [h]; omega
   have HI := hI hid; clear hid
   go_wp2_with (first
    | (refine load_rel rfl (.tmp 3) rfl (w.heap.size + 1) _ rfl hr.out ?_)
    | (refine store_rel rfl (.tmp 2) (.tmp 15) rfl w.heap.size zeroR _ rfl rfl hz.out (by simp [idTo]) ?_; intro w1 hr1 hk1 hs1))
   exact bodyPost_ret (results_rel Tryz.results266 _ _ w.heap.size _ rfl hr1) rfl ⟨by rw [HI.out], hB.trans (hk1.to_below (fun k h => by subst h; omega) hB.size)⟩
def orR (x y : List Nat) : List Nat := List.zipWith (· ||| ·) x y
def orTo (x y : List Nat) (k : Nat) : List Nat := (orR x y).take k ++ x.drop k
theorem orTo_zero (x y : List Nat) : orTo x y 0 = x := by simp [orTo]
theorem orTo_all (x y : List Nat) (hx : x.length = 33) (hy : y.length = 33) : orTo x y 33 = orR x y := by
 unfold orTo; rw [List.take_of_length_le (by simp [orR, hx, hy]), List.drop_eq_nil_of_le (by omega), List.append_nil]
theorem orTo_get (x y : List Nat) (k a b : Nat) (hx : x.length = 33) (hy : y.length = 33) (ha : x[k]? = some a) (hk : k < 33) : (orTo x y k)[k]? = some a := by
 unfold orTo
 have hl : ((orR x y).take k).length = k := by rw [List.length_take]; unfold orR; rw [List.length_zipWith]; omega
 rw [List.getElem?_append_right (by omega), hl, Nat.sub_self, List.getElem?_drop, Nat.add_zero, ha]
theorem orTo_set (x y : List Nat) (k a b : Nat) (hx : x.length = 33) (hy : y.length = 33) (ha : x[k]? = some a) (hb : y[k]? = some b) (hk : k < 33) :
  (orTo x y k).set k (a ||| b) = orTo x y (k + 1) := by
 unfold orTo
 have hl : ((orR x y).take k).length = k := by rw [List.length_take]; unfold orR; rw [List.length_zipWith]; omega
 have h1 : (orR x y)[k]? = some (a ||| b) := by unfold orR; rw [List.getElem?_zipWith, ha, hb]
 rw [List.set_append, if_neg (by omega), hl, Nat.sub_self, take_snoc' _ k _ h1, List.append_assoc]
 congr 1
 obtain ⟨h2, h3⟩ := List.getElem?_eq_some_iff.1 ha
 rw [List.drop_eq_getElem_cons h2]
 rfl
theorem or_c (bx by_ : Nat) (x y : List Nat) (w : World) (hx : RelAt w bx x) (hy : RelAt w by_ y) (hne : bx ≠ by_) (hsx : ∀ s ∈ x, Small s) (hsy : ∀ s ∈ y, Small s) :
  Calls Tryz.prog 264 #[.pointer (some ⟨bx, 0, none⟩), .pointer (some ⟨by_, 0, none⟩)] w fun e w' =>
   e = .returned (.tuple #[]) ∧ RelAt w' bx (orR x y) ∧ Keep (· = bx) w w' ∧ w'.heap.size = w.heap.size := by
 have HX := hI hx; clear hx
 have HY := hI hy; clear hy
 have HSX := hI hsx; clear hsx
 have HSY := hI hsy; clear hsy
 go_enter Tryz.func264, Tryz.ntmps264
 go_wp2
 go_loopw [4, 5, 7] (fun _ _ i wr => ∃ k : Nat, k ≤ 33 ∧ i = .int .i64 k ∧ Hid (RelAt wr bx (orTo x y k)) ∧ Hid (RelAt wr by_ y) ∧ Hid (Keep (· = bx) w wr ∧ wr.heap.size = w.heap.size)) (fun _ _ i _ => 33 - (intOf i).toNat)
 case atStart => exact ⟨0, by omega, rfl, by rw [orTo_zero]; exact HX.out, HY.out, Keep.refl _ _, rfl⟩
 case round =>
  obtain ⟨k, hk, rfl, hr, hyr, hkp⟩ := hrel
  by_cases hlt : k < 33
  ·have hs : ((k : Nat) : Int) < 33 := by omega
   obtain ⟨a, ha⟩ : ∃ a, x[k]? = some a := ⟨x[k]'(by have := HX.out.2; omega), List.getElem?_eq_getElem _⟩
   obtain ⟨b, hb⟩ : ∃ b, y[k]? = some b := ⟨y[k]'(by have := HY.out.2; omega), List.getElem?_eq_getElem _⟩
   have c1 := hr.out.get (orTo_get x y k a b HX.out.2 HY.out.2 ha hlt)
   have c2 := hyr.out.get hb
   have c3 := hr.out.frozen k
   have hor := or_bits a b (HSX.out a (List.mem_of_getElem? ha)) (HSY.out b (List.mem_of_getElem? hb))
   have HA := hI ha; clear ha
   have HB := hI hb; clear hb
   go_wp2
   go_quiet (fail)
   go_wp2
   refine plain_region (fun W' => W'.cell? ⟨bx, k, none⟩ = some (.int .u64 (a : Int))) (by kernel_rfl) c1 (fun hHeld => ?_)
   (refine' anyT_tk 0 rfl ?_; (try simp only [Act.put, nY, nX])); (refine' anyT_tk 1 rfl ?_; (try simp only [Act.put, nY, nX])); (refine' anyT_tk 2 rfl ?_; (try simp only [Act.put, nY, nX])); (refine' anyT_tk 3 rfl ?_; (try simp only [Act.put, nY, nX])); (refine' anyT_tk 4 rfl ?_; (try simp only [Act.put, nY, nX])); (refine' anyT_tk 5 rfl ?_; (try simp only [Act.put, nY, nX])); (refine' anyT_tk 6 rfl ?_; (try simp only [Act.put, nY, nX])); (refine' anyT_tk 7 rfl ?_; (try simp only [Act.put, nY, nX])); (refine' anyT_tk 8 rfl ?_; (try simp only [Act.put, nY, nX]))
   (refine anyT_sp 9 rfl (fun K' hK' => ?_); simp only [nY]; go_simp)
   refine hK' _ _ ⟨.inl (by kernel_rfl), fun _ => anyT_done (by kernel_rfl) ?_ _⟩
   go_wp2
   go_roundw
   case rel =>
    refine ⟨k + 1, by omega, by go_num, ?_, ?_, ?_, ?_⟩
    ·have h1 := hr.out.set (k := k) (s := a ||| b)
     rw [orTo_set x y k a b HX.out.2 HY.out.2 HA.out HB.out hlt] at h1
     exact h1
    ·exact ⟨(Below.heap_setCell _ _ _ _ (Ne.symm hne)).trans hyr.out.1, hyr.out.2⟩
    ·exact ((hkp.out.1.drewN nq).setCell (p := ⟨bx, k, none⟩) rfl _).drew
    ·have := hkp.out.2; simpa using this
   case measure => simp [intOf]; omega
  ·obtain rfl : k = 33 := by omega
   go_wp2
   go_end0
   exact ⟨rfl, by have := hr.out; rwa [orTo_all x y HX.out.2 HY.out.2] at this, hkp.out.1, hkp.out.2⟩
def powM : Nat → List Nat → Nat → List Nat → List Nat
 | 0, _, _, out => out
 | f + 1, x, k, out => if k = 0 then out else powM f (thenM x x) (k / 2) (if k % 2 = 1 then thenM out x else out)
def powR (x : List Nat) (k n : Nat) : List Nat := powM 7 x k (idR n)
def AllSmall (x : List Nat) : Prop := ∀ s ∈ x, Small s
theorem thenM_small (x y : List Nat) (hy : AllSmall y) : AllSmall (thenM x y) := by
 intro s hs
 obtain ⟨t, _, rfl⟩ := List.mem_map.1 hs
 exact G_small y t hy
theorem thenM_len (x y : List Nat) : (thenM x y).length = x.length := by simp [thenM]
theorem idR_small (n : Nat) : AllSmall (idR n) := by
 intro s hs
 obtain ⟨k, hk, rfl⟩ := List.mem_map.1 hs
 have hk := List.mem_range.1 hk
 split
 ·have hp : 2 ^ k ≤ 2 ^ 32 := Nat.pow_le_pow_right (by decide) (by omega)
  have e32 : (2 : Nat) ^ 32 = 4294967296 := by decide
  unfold Small; omega
 ·exact small_zero
theorem idR_len (n : Nat) : (idR n).length = 33 := by simp [idR]
theorem and_one_small : ∀ j : Nat, j < 65 → bits .and .i64 (j : Int) 1 = ((j % 2 : Nat) : Int) := by decide +kernel
theorem pow_half (f j : Nat) (h : j < 2 ^ (f + 1)) : j / 2 < 2 ^ f := by rw [Nat.pow_succ] at h; omega
theorem power_c (x : List Nat) (k n : Nat) (w : World) (hx : x.length = 33) (hs : AllSmall x) (hk : k ≤ 64) (hn : n ≤ 32) (hT : TabOK w) :
  Calls Tryz.prog 260 #[.agg (rarr x), .int .i64 (k : Int), .int .i64 (n : Int)] w fun e w' => e = .returned (.agg (rarr (powR x k n))) ∧ Below w.heap.size w w' := by
 have HX := hI hx; clear hx
 have HS := hI hs; clear hs
 have HT := hI hT; clear hT
 go_enter Tryz.func260, Tryz.ntmps260
 go_wp2_with (first
  | (go_at_call 266; refine (identity_c n _ hn).mono ?_; rintro e w1 ⟨rfl, hb1⟩; have hz1 := bsize hb1; (try simp only [World.size_alloc, World.size_drew, World.size_setCell] at hz1)
     have hx1 : RelAt w1 w.heap.size x := ⟨(hb1.block _ sd).trans hpt, HX.out⟩
     have hr1 : RelAt w1 (w.heap.size + 1) zeroR := ⟨(hb1.block _ sd).trans hpt, rfl⟩
     have hB1 : Below w.heap.size w w1 := bel
     clear hb1)
  | (refine store_rel rfl (.tmp 7) (.tmp 9) rfl _ zeroR (idR n) rfl rfl ?hr (idR_len n) ?hc))
 case hr => exact ⟨hpt, rfl⟩
 case hc =>
  intro w2 hr2 hk2 hs2
  have hx2 : Hid (RelAt w2 w.heap.size x) := (hx1.alloc _).keep1 hk2 (by omega)
  have hr3 : Hid (RelAt w2 (w.heap.size + 1) zeroR) := (hr1.alloc _).keep1 hk2 (by omega)
  have hB2 : Below w.heap.size w w2 := keep_below (hB1.alloc hB1.size _) hk2 (by omega) sd
  have hR2 : Hid (RelAt w2 w1.heap.size (idR n)) := hr2
  have hz2 : w1.heap.size < w2.heap.size := by omega
  clear hx1 hr1 hk2 hs2 hr2 hB1
  go_wp2
  go_loopw [1] (fun q wr => ∃ (f j : Nat) (x' out : List Nat), j < 2 ^ f ∧ q = .int .i64 j ∧ Hid (powM f x' j out = powR x k n) ∧ Hid (RelAt wr w.heap.size x') ∧ Hid (RelAt wr (w.heap.size + 1) zeroR) ∧ Hid (RelAt wr w1.heap.size out) ∧
    Hid (AllSmall x' ∧ AllSmall out) ∧ Below w.heap.size w wr ∧ j ≤ 64) (fun q _ => (intOf q).toNat)
  case atStart => exact ⟨7, k, x, idR n, by omega, rfl, rfl, hx2, hr3, hR2, ⟨HS.out, idR_small n⟩, hB2, hk⟩
  case round =>
   obtain ⟨f, j, x', out, hf, rfl, hp, hx, hz, ho, hsm, hB, hj⟩ := hrel
   have hBs := hB.size
   have hwl := ho.out.lt
   have hxl := hx.out.lt
   have hTr := hI (HT.out.below hB rr)
   by_cases hj0 : j = 0
   ·subst hj0
    have hout : out = powR x k n := by have := hp.out; cases f <;> simpa [powM] using this
    have HO := hI hout; clear hout
    go_wp2_with (first
     | (refine load_rel rfl (.tmp 7) rfl w1.heap.size out rfl ho.out ?_)
     | (refine store_rel rfl (.tmp 6) (.tmp 19) rfl (w.heap.size + 1) zeroR out rfl rfl hz.out ho.out.2 ?_; intro w3 hr3 hk3 hs3))
    exact bodyPost_ret (results_rel Tryz.results260 _ _ (w.heap.size + 1) _ rfl hr3) rfl ⟨by rw [HO.out], keep_below hB hk3 (by omega) hB.size⟩
   ·obtain ⟨f, rfl⟩ : ∃ g, f = g + 1 := ⟨f - 1, by cases f with | zero => simp at hf; omega | succ g => rfl⟩
    have hpos : (0 : Int) < (j : Int) := by omega
    have hj1 := and_one_small j (by omega)
    by_cases hodd : j % 2 = 1
    ·have ht : (bits .and .i64 (j : Int) 1 == 1) = true := by rw [hj1, hodd]; rfl
     clear hj1
     go_wp2_with fail
     refine (then_c w1.heap.size w.heap.size out x' _ ho.out hx.out hTr.out hsm.out.2 hsm.out.1).mono ?_
     rintro e w3 ⟨rfl, hb3⟩
     have hx3 := hI (hx.out.below hb3 rr)
     have ho3 := hI (ho.out.below hb3 rr)
     have hz3 := hI (hz.out.below hb3 rr)
     have hT3 := hI (hTr.out.below hb3 rr)
     have hB3 : Below w.heap.size w w3 := bel
     clear hb3
     go_wp2_with (refine store_rel rfl (.tmp 7) (.tmp 17) rfl _ out (thenM out x') rfl rfl ho3.out (by rw [thenM_len]; exact ho3.out.2) ?_; intro w4 hr4 hk4 hs4)
     have hx4 := hI (hx3.out.keep1 hk4 (by omega))
     have hz4 := hI (hz3.out.keep1 hk4 (by omega))
     have hT4 := hI (hT3.out.keep hk4 (by have := HT.out.1; omega))
     have hR4 := hI hr4
     have hB4 : Below w.heap.size w w4 := keep_below hB3 hk4 (by omega) hB3.size
     have hBs4 := hB4.size
     clear hr4 hk4 hs4
     go_wp2_with fail
     refine (then_c w.heap.size w.heap.size x' x' _ hx4.out hx4.out hT4.out hsm.out.1 hsm.out.1).mono ?_
     rintro e w5 ⟨rfl, hb5⟩
     have hx5 := hI (hx4.out.below hb5 rr)
     have ho5 := hI (hR4.out.below hb5 rr)
     have hz5 := hI (hz4.out.below hb5 rr)
     have hB5 : Below w.heap.size w w5 := bel
     clear hb5
     go_wp2_with (refine store_rel rfl (.tmp 3) (.tmp 18) rfl _ x' (thenM x' x') rfl rfl hx5.out (by rw [thenM_len]; exact hx5.out.2) ?_; intro w6 hr6 hk6 hs6)
     go_roundw
     case rel =>
      have hp2 : powM f (thenM x' x') (j / 2) (thenM out x') = powR x k n := by have := hp.out; simp only [powM, hj0, if_false] at this; simpa [hodd] using this
      exact ⟨f, j / 2, thenM x' x', thenM out x', pow_half f j hf, by go_num, hp2, hr6, hz5.out.keep1 hk6 (by omega), ho5.out.keep1 hk6 (by omega), ⟨thenM_small _ _ hsm.out.1, thenM_small _ _ hsm.out.1⟩, keep_below hB5 hk6 rr hB5.size, by omega⟩
     case measure => simp [intOf]; omega
    ·have ht : (bits .and .i64 (j : Int) 1 == 1) = false := by rw [hj1]; simp; omega
     clear hj1
     go_wp2_with fail
     refine (then_c w.heap.size w.heap.size x' x' _ hx.out hx.out hTr.out hsm.out.1 hsm.out.1).mono ?_
     rintro e w5 ⟨rfl, hb5⟩
     have hx5 := hI (hx.out.below hb5 rr)
     have ho5 := hI (ho.out.below hb5 rr)
     have hz5 := hI (hz.out.below hb5 rr)
     have hB5 : Below w.heap.size w w5 := bel
     clear hb5
     go_wp2_with (refine store_rel rfl (.tmp 3) (.tmp 18) rfl _ x' (thenM x' x') rfl rfl hx5.out (by rw [thenM_len]; exact hx5.out.2) ?_; intro w6 hr6 hk6 hs6)
     go_roundw
     case rel =>
      have hp2 : powM f (thenM x' x') (j / 2) out = powR x k n := by have := hp.out; simp only [powM, hj0, if_false] at this; simpa [hodd] using this
      exact ⟨f, j / 2, thenM x' x', out, pow_half f j hf, by go_num, hp2, hr6, hz5.out.keep1 hk6 (by omega), ho5.out.keep1 hk6 (by omega), ⟨thenM_small _ _ hsm.out.1, hsm.out.2⟩, keep_below hB5 hk6 rr hB5.size, by omega⟩
     case measure => simp [intOf]; omega
end Go.Proofs.YtaglfmlgbcmakaaGreatDoor

/-
  Valid laws turn valid words into valid words, or fail as too long; forms of a list that is put together.
  What a list of laws makes of a word, part by part.
-/
import Derived.Test.YtaglfmlgbcmakaaGreatDoorG14
set_option linter.all false
set_option maxRecDepth 100000
set_option maxHeartbeats 4000000
namespace Go.Proofs.YtaglfmlgbcmakaaGreatDoor
open Go.RowKit Go.Shelf
def bv (a : Int) : BitVec 32 := BitVec.ofInt 32 a
theorem wrap_bv (x : BitVec 32) : IntKind.u32.wrap (x.toNat : Int) = (x.toNat : Int) := by
 have := x.isLt
 simp [IntKind.wrap, IntKind.bits, IntKind.signed]
 omega
theorem bv_nat (v : BitVec 32) : bv (v.toNat : Int) = v := by
 unfold bv
 rw [BitVec.ofInt_natCast, BitVec.ofNat_toNat, BitVec.setWidth_eq]
theorem and_bv (a b : Int) : bits .and .u32 a b = ((bv a &&& bv b).toNat : Int) := wrap_bv _
theorem or_bv (a b : Int) : bits .or .u32 a b = ((bv a ||| bv b).toNat : Int) := wrap_bv _
theorem andNot_bv (a b : Int) : bits .andNot .u32 a b = ((bv a &&& ~~~ bv b).toNat : Int) := wrap_bv _
theorem mix_bv (s f set : Int) : bv (mixI s f set) = (bv s &&& ~~~ bv set) ||| (bv f &&& bv set) := by
 unfold mixI
 rw [or_bv, bv_nat, andNot_bv, bv_nat, and_bv, bv_nat]
theorem low_iff (x : BitVec 32) : x.toNat ≤ 16777215 ↔ ∀ i, 24 ≤ i → x.getLsbD i = false := by
 constructor
 ·intro h i hi
  rw [← BitVec.testBit_toNat]
  exact Nat.testBit_lt_two_pow (Nat.lt_of_lt_of_le (show x.toNat < 2 ^ 24 by omega) (Nat.pow_le_pow_right (by decide) hi))
 ·intro h
  have : x.toNat < 2 ^ 24 := Nat.lt_pow_two_of_testBit _ fun i hi => by rw [BitVec.testBit_toNat]; exact h i hi
  omega
theorem zero_iff (x : BitVec 32) : (x.toNat : Int) = 0 ↔ ∀ i, x.getLsbD i = false := by
 constructor
 ·intro h i
  have : x = 0 := BitVec.eq_of_toNat_eq (by simpa using h)
  rw [this]; simp
 ·intro h
  have : x = 0 := BitVec.eq_of_getLsbD_eq fun i _ => by rw [h i]; simp
  rw [this]; simp
def OkB (p m : BitVec 32) : Prop := ∀ i, (p.getLsbD i && m.getLsbD i) = false ∧ (24 ≤ i → p.getLsbD i = false ∧ m.getLsbD i = false)
theorem fvalid_iff (p m : Int) : fvalid p m = true ↔ OkB (bv p) (bv m) := by
 unfold fvalid
 rw [and_bv, or_bv, Bool.and_eq_true, beq_iff_eq, decide_eq_true_eq, zero_iff]
 rw [show (((bv p ||| bv m).toNat : Int) ≤ 16777215) = ((bv p ||| bv m).toNat ≤ 16777215) from propext (by omega), low_iff]
 simp only [BitVec.getLsbD_and, BitVec.getLsbD_or, Bool.or_eq_false_iff]
 exact ⟨fun h i => ⟨h.1 i, h.2 i⟩, fun h => ⟨fun i => (h i).1, fun i => (h i).2⟩⟩
theorem wvalid_iff (p m : Int) : wvalid p m = true ↔ OkB (bv p) (bv m) := by
 rw [← fvalid_iff]
 unfold wvalid fvalid
 rw [or_bv, Bool.and_eq_true, Bool.and_eq_true, beq_iff_eq, beq_iff_eq, decide_eq_true_eq]
 constructor
 ·rintro ⟨h1, h2⟩; exact ⟨h1, by omega⟩
 ·rintro ⟨h1, h2⟩; exact ⟨h1, by omega⟩
theorem OkB.mix {s s' t t' : Int} {set : Int} (h : OkB (bv s) (bv s')) (ht : OkB (bv t) (bv t')) (hs : ∀ i, 24 ≤ i → (bv set).getLsbD i = false) : OkB (bv (mixI s t set)) (bv (mixI s' t' set)) := by
 intro i
 obtain ⟨h1, h2⟩ := h i
 obtain ⟨t1, t2⟩ := ht i
 have hi := hs i
 rw [mix_bv, mix_bv]
 simp only [BitVec.getLsbD_or, BitVec.getLsbD_and, BitVec.getLsbD_not]
 refine ⟨?_, fun hge => ?_⟩
 ·revert h1 t1
  generalize (bv set).getLsbD i = x
  generalize (bv s).getLsbD i = a
  generalize (bv s').getLsbD i = b
  generalize (bv t).getLsbD i = c
  generalize (bv t').getLsbD i = d
  generalize decide (i < 32) = y
  revert x a b c d y
  decide
 ·obtain ⟨a1, a2⟩ := h2 hge
  obtain ⟨b1, b2⟩ := t2 hge
  simp [a1, a2, b1, b2]
theorem ok00 : OkB (bv 0) (bv 0) := (fvalid_iff 0 0).1 (by decide)
def OkS (s : Snd) : Prop := OkB (bv s.1) (bv s.2)
theorem OkS.low {s : Snd} (h : OkS s) {i : Nat} (hi : 24 ≤ i) : (bv s.1).getLsbD i = false ∧ (bv s.2).getLsbD i = false := (h i).2 hi
theorem changeM_ok {s t : Snd} {clear : Int} (hs : OkS s) (ht : OkS t) (hc : ∀ i, 24 ≤ i → (bv clear).getLsbD i = false) : OkS (changeM s clear t) := by
 unfold changeM
 split
 ·refine OkB.mix hs ht fun i hi => ?_
  rw [or_bv, bv_nat, or_bv, bv_nat, BitVec.getLsbD_or, BitVec.getLsbD_or, hc i hi, (ht.low hi).1, (ht.low hi).2]
  rfl
 ·exact ok00
theorem takeM_ok {s t : Snd} {mask : Int} (hs : OkS s) (ht : OkS t) (hc : ∀ i, 24 ≤ i → (bv mask).getLsbD i = false) : OkS (takeM s t mask) := by
 unfold takeM
 split
 ·exact OkB.mix hs ht hc
 ·exact ok00
theorem fits_low {x : OutD} {k : Int} (h : fitsM x k = true) : OkS (x.sp, x.sm) ∧ (∀ i, 24 ≤ i → (bv x.clear).getLsbD i = false) ∧ (∀ i, 24 ≤ i → (bv x.take).getLsbD i = false) := by
 unfold fitsM at h
 split at h
 ·cases h
 ·rename_i h1
  split at h
  ·cases h
  ·rename_i h2
   simp only [Bool.or_eq_true, not_or, Bool.not_eq_true', Bool.not_eq_false] at h1
   simp only [Bool.or_eq_true, not_or, bne_iff_ne, ne_eq, Decidable.not_not] at h2
   have h3 := h2.1.1
   rw [andNot_bv, or_bv, bv_nat, zero_iff] at h3
   have hlow : ∀ i, 24 ≤ i → ((bv x.clear).getLsbD i || (bv x.take).getLsbD i) = false := by
    intro i hi
    have h4 := h3 i
    rw [BitVec.getLsbD_and, BitVec.getLsbD_or, BitVec.getLsbD_not] at h4
    by_cases hi2 : i < 32
    ·have h5 : (bv 16777215).getLsbD i = false := (low_iff (bv 16777215)).1 (by decide) i hi
     rw [h5] at h4
     simpa [hi2] using h4
    ·rw [BitVec.getLsbD_of_ge _ _ (by omega), BitVec.getLsbD_of_ge _ _ (by omega)]; rfl
   exact ⟨(fvalid_iff _ _).1 h1.2, fun i hi => (Bool.or_eq_false_iff.1 (hlow i hi)).1, fun i hi => (Bool.or_eq_false_iff.1 (hlow i hi)).2⟩
def OkW (ws : List Snd) : Prop := ∀ s ∈ ws, OkS s
theorem wcheck_iff {ws : List Snd} : wcheck ws = 0 ↔ ws.length ≤ 32 ∧ OkW ws := by
 unfold wcheck OkW OkS
 by_cases h : 32 < ws.length
 ·rw [if_pos h]; exact ⟨fun h' => absurd h' (by decide), fun h' => by omega⟩
 ·rw [if_neg h]
  by_cases h2 : ws.all (fun s => wvalid s.1 s.2) = true
  ·rw [if_pos h2]
   exact ⟨fun _ => ⟨by omega, fun s hs => (wvalid_iff _ _).1 (List.all_eq_true.1 h2 s hs)⟩, fun _ => rfl⟩
  ·rw [if_neg h2]
   exact ⟨fun h' => absurd h' (by decide), fun h' => absurd (List.all_eq_true.2 fun s hs => (wvalid_iff _ _).2 (h'.2 s hs)) h2⟩
theorem okw_getD {ws : List Snd} (h : OkW ws) (k : Nat) : OkS (ws.getD k (0, 0)) := by
 rw [List.getD_eq_getElem?_getD]
 cases hk : ws[k]? with
 | none => exact ok00
 | some s => exact h s (List.mem_of_getElem? hk)
theorem OkW.take {ws : List Snd} (h : OkW ws) (k : Nat) : OkW (ws.take k) := fun s hs => h s (List.mem_of_mem_take hs)
theorem OkW.drop {ws : List Snd} (h : OkW ws) (k : Nat) : OkW (ws.drop k) := fun s hs => h s (List.mem_of_mem_drop hs)
theorem OkW.append {a b : List Snd} (h : OkW a) (h' : OkW b) : OkW (a ++ b) := fun s hs => (List.mem_append.1 hs).elim (h s) (h' s)
theorem law_outs {l : LawD} (h : lawE l = 0) : ∀ x ∈ l.outs, fitsM x l.ifs.length = true := by
 unfold lawE at h
 by_cases hb : badLaw l = true
 ·rw [if_pos hb] at h; exact absurd h (by decide)
 ·unfold badLaw at hb
  simp only [Bool.or_eq_true, not_or] at hb
  intro x hx
  have := hb.2
  by_cases hf : fitsM x l.ifs.length = true
  ·exact hf
  ·exact absurd (List.any_eq_true.2 ⟨x, hx, by simpa using hf⟩) this
theorem putS_ok {cut : List Snd} {x : OutD} {k : Int} (hc : OkW cut) (hx : fitsM x k = true) : OkS (putS cut x) := by
 obtain ⟨h1, h2, h3⟩ := fits_low hx
 unfold putS
 have h0 : OkS (if 0 ≤ x.frm then cut.getD x.frm.toNat (0, 0) else (0, 0)) := by
  split
  ·exact okw_getD hc _
  ·exact ok00
 have hA := changeM_ok h0 h1 h2
 dsimp only
 split
 ·exact takeM_ok hA (okw_getD hc _) h3
 ·exact hA
theorem putM_ok {l : LawD} {cut : List Snd} (hl : lawE l = 0) (hc : OkW cut) : OkW (putM l cut) := by
 intro s hs
 obtain ⟨x, hx, rfl⟩ := List.mem_map.1 hs
 exact putS_ok hc (law_outs hl x hx)
theorem replaceM_ok {l : LawD} {ws : List Snd} {at_ : Nat} (hl : lawE l = 0) (hw : OkW ws) : OkW (replaceM l ws at_) := by
 unfold replaceM
 exact ((hw.take _).append (putM_ok hl ((hw.drop _).take _))).append (hw.drop _)
theorem stepM_ok {l : LawD} {ws : List Snd} {r : RS} (hl : lawE l = 0) (hw : OkW ws) (hn : OkW r.now) : OkW (stepM l ws r).2.now ∧ ∀ x, (stepM l ws r).1 = some x → OkW x.2 := by
 unfold stepM
 split
 ·split
  ·have : OkW (r.now.take (r.at_ + r.shift).toNat ++ putM l ((ws.drop r.at_.toNat).take l.ifs.length) ++ ws.drop (r.at_.toNat + l.ifs.length)) := ((hn.take _).append (putM_ok hl ((hw.drop _).take _))).append (hw.drop _)
   exact ⟨this, fun x hx => by obtain rfl := Option.some.inj hx; exact this⟩
  ·exact ⟨hn, fun x hx => by cases hx⟩
 ·split
  ·split
   ·exact ⟨replaceM_ok hl hn, fun x hx => by obtain rfl := Option.some.inj hx; exact replaceM_ok hl hn⟩
   ·exact ⟨hn, fun x hx => by cases hx⟩
  ·split
   ·exact ⟨replaceM_ok hl hn, fun x hx => by obtain rfl := Option.some.inj hx; exact replaceM_ok hl hn⟩
   ·exact ⟨hn, fun x hx => by cases hx⟩
theorem runM_ok {l : LawD} {ws : List Snd} (hl : lawE l = 0) (hw : OkW ws) : ∀ (f : Nat) (r : RS), OkW r.now → ∀ x ∈ (runM l ws f r).1, OkW x.2
 | 0, _, _, x, h => by simp [runM] at h
 | f + 1, r, hn, x, h => by
  have hs := stepM_ok (r := r) hl hw hn
  rw [runM] at h
  split at h
  ·simp at h
  ·split at h
   ·rename_i r' he
    rw [he] at hs
    exact runM_ok hl hw f _ hs.1 x h
   ·rename_i p now r' he
    rw [he] at hs
    split at h
    ·simp at h
    ·simp only [List.mem_cons] at h
     rcases h with rfl | h
     ·exact hs.2 _ rfl
     ·exact runM_ok hl hw f _ hs.1 x h
theorem applyM_ok {l : LawD} {ws : List Snd} (hl : lawE l = 0) (hw : wcheck ws = 0) : (applyM l ws).1 = 11 ∨ (applyM l ws).1 = 0 ∧ wcheck (applyM l ws).2 = 0 := by
 obtain ⟨h1, h2⟩ := wcheck_iff.1 hw
 have hs := applyM_short (l := l) h1
 have hlc : lcheckE l ws = 0 := by unfold lcheckE; rw [if_pos hl]; exact hw
 have hn : OkW (startM l ws).now := by unfold startM; split <;> exact h2
 by_cases hr : (runM l ws 80 (startM l ws)).2 = true
 ·left
  unfold applyM traceM
  simp [hlc, hr]
 ·right
  have ht : traceM l ws = (0, (runM l ws 80 (startM l ws)).1) := by unfold traceM; simp [hlc, hr]
  have ha := applyM_words l ws (by rw [ht])
  rw [ha]
  refine ⟨rfl, ?_⟩
  rw [ha] at hs
  refine wcheck_iff.2 ⟨hs, ?_⟩
  dsimp only
  rw [ht]
  cases e : ((runM l ws 80 (startM l ws)).1.map (·.2)).getLast? with
  | none => exact h2
  | some x =>
   obtain ⟨y, hy, rfl⟩ := List.mem_map.1 (List.mem_of_getLast? e)
   exact runM_ok hl h2 _ _ hn y hy
theorem formsM_ok : ∀ (ls : List LawD) (ws : List Snd), (∀ l ∈ ls, lawE l = 0) → wcheck ws = 0 → ((formsM ls ws).1 = 0 ∨ (formsM ls ws).1 = 11) ∧ ∀ x ∈ (formsM ls ws).2, wcheck x = 0
 | [], ws, _, hw => ⟨.inl rfl, fun x hx => by
   obtain rfl : x = ws := by simpa [formsM] using hx
   exact hw⟩
 | l :: ls, ws, hl, hw => by
  unfold formsM
  rcases applyM_ok (hl l (by simp)) hw with h | ⟨h, h'⟩
  ·rw [if_pos (by rw [h]; decide)]
   exact ⟨.inr h, fun x hx => by
    obtain rfl : x = ws := by simpa using hx
    exact hw⟩
  ·rw [if_neg (by rw [h]; decide)]
   obtain ⟨i1, i2⟩ := formsM_ok ls _ (fun l hl' => hl l (by simp [hl'])) h'
   refine ⟨i1, fun x hx => ?_⟩
   rcases List.mem_cons.1 hx with rfl | hx
   ·exact hw
   ·exact i2 x hx
theorem lawsE_all {ls : List LawD} (h : lawsE ls = 0) : ls.length ≤ 64 ∧ ∀ l ∈ ls, lawE l = 0 := by
 unfold lawsE at h
 split at h
 ·exact absurd h (by decide)
 ·split at h
  ·exact absurd h (by decide)
  ·rename_i h1 h2
   refine ⟨by omega, fun l hl => ?_⟩
   by_cases h3 : lawE l = 0
   ·exact h3
   ·exact absurd (List.any_eq_true.2 ⟨l, hl, by simpa using h3⟩) h2
end Go.Proofs.YtaglfmlgbcmakaaGreatDoor
namespace Go.Proofs.YtaglfmlgbcmakaaGreatDoor
open Go.RowKit Go.Shelf
end Go.Proofs.YtaglfmlgbcmakaaGreatDoor

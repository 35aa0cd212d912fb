/-
  word.Check, and the loops of the library over words: what each returns.
  Patterns: how they are thought of, and how they lie in memory; pats.allowed.
  Ranges over functions, in the wide fence: the statement, a round, the marks that are left for the return.
-/
import Derived.RangeFuncNested
import Derived.RangeFuncBound
import Derived.RangeFuncCalls
import Derived.RangeFuncLeaves
import Derived.OwnWalkIn
import Derived.TacticsInMore
import Derived.LoopNIn
import Derived.LoopIn
import Derived.Shelf.Abstract
import Derived.OrdersIn
import Derived.Test.YtaglfmlgbcmakaaGreatDoorG01
set_option linter.all false
set_option maxRecDepth 100000
set_option maxHeartbeats 4000000
namespace Go.Proofs.YtaglfmlgbcmakaaGreatDoor
open Go.RowKit
def wcheck (xs : List Snd) : Int := if 32 < xs.length then 11 else if xs.all (fun s => wvalid s.1 s.2) then 0 else 14
theorem wCheck_c (A : Option Addr) (n c : Nat) (xs : List Snd) (w : World) (hx : IsWord w A n c xs) :
  Calls Tryz.prog 46 #[.slice A n c] w fun e w' => e = .returned (.int .i64 (wcheck xs)) ∧ Below w.heap.size w w' := by
 by_cases h32 : 32 < n
 ·have hv : wcheck xs = 11 := by unfold wcheck; rw [if_pos (by rw [hx.len]; exact h32)]
  have H := hI hv; clear hv
  have HX := hI hx; clear hx
  go_enter Tryz.func46, Tryz.ntmps46
  go_wp2
  go_ret
  exact ⟨by rw [H.out]; rfl, bel⟩
 ·have hv : wcheck xs = if xs.all (fun s => wvalid s.1 s.2) then 0 else 14 := by unfold wcheck; rw [if_neg (by rw [hx.len]; exact h32)]
  have H := hI hv; clear hv
  have HX := hI hx; clear hx
  have hm : n ≤ 32 := by omega
  go_enter Tryz.func46, Tryz.ntmps46
  go_wp2
  go_loopw [4, 10] (fun _ i wr => ∃ k : Nat, k ≤ n ∧ i = .int .i64 k ∧ (xs.take k).all (fun s => wvalid s.1 s.2) = true ∧ Below w.heap.size w wr) (fun _ i _ => n - (intOf i).toNat)
  case atStart => exact ⟨0, Nat.zero_le _, rfl, by simp, bel⟩
  case round =>
   obtain ⟨k, hk, rfl, hall, hB⟩ := hrel
   have HA := hI hall; clear hall
   by_cases hlt : k < n
   ·obtain ⟨b, off, p, m, rfl, hb, hxk, hc0, hc1⟩ := (HX.out.below hB rr).at_ hlt
    have HK := hI hxk; clear hxk
    have HS := hI (take_snoc' xs k (p, m) HK.out)
    by_cases hval : wvalid p m = true
    ·go_wp2_with (go_at_call 88; refine (wvalid_c _ _ _).mono ?_; rintro e w1 ⟨rfl, hb1⟩; have hz1 := bsize hb1; (try simp only [World.size_alloc, World.size_drew, World.size_setCell] at hz1); have c0 := fun o => hb1.cell (p := ⟨wr.heap.size, o, none⟩) sd; have f0 := fun o => hb1.frozen (p := ⟨wr.heap.size, o, none⟩) sd; have hB1 : Below wr.heap.size wr w1 := bel; clear hb1)
     go_roundw
     case rel => exact ⟨k + 1, by omega, by go_num, by rw [HS.out, List.all_append, HA.out]; simp [hval], hB.trans (hB1.mono hB.size)⟩
     case measure => simp [intOf]; omega
    ·have hval' : wvalid p m = false := by simpa using hval
     clear hval
     have hf : xs.all (fun s => wvalid s.1 s.2) = false := by
      rw [← List.take_append_drop (k + 1) xs, HS.out]; simp [hval']
     have HF := hI hf; clear hf
     go_wp2_with (go_at_call 88; refine (wvalid_c _ _ _).mono ?_; rintro e w1 ⟨rfl, hb1⟩; have hz1 := bsize hb1; (try simp only [World.size_alloc, World.size_drew, World.size_setCell] at hz1); have c0 := fun o => hb1.cell (p := ⟨wr.heap.size, o, none⟩) sd; have f0 := fun o => hb1.frozen (p := ⟨wr.heap.size, o, none⟩) sd; have hB1 : Below wr.heap.size wr w1 := bel; clear hb1)
     go_ret
     exact ⟨by rw [H.out, HF.out]; rfl, hB.trans (hB1.mono hB.size)⟩
   ·obtain rfl : k = n := by omega
    have hf : xs.all (fun s => wvalid s.1 s.2) = true := by
     have := HA.out; rwa [List.take_of_length_le (by rw [HX.out.len]; exact rr)] at this
    have HF := hI hf; clear hf
    go_wp2
    go_ret
    exact ⟨by rw [H.out, HF.out]; rfl, hB⟩
theorem sEqual_c (A A' : Option Addr) (n n' c c' : Nat) (xs ys : List Snd) (w : World) (hx : IsWord w A n c xs) (hy : IsWord w A' n' c' ys) :
  Calls Tryz.prog 67 #[.slice A n c, .slice A' n' c'] w fun e w' => e = .returned (.bool (decide (xs = ys))) ∧ Below w.heap.size w w' := by
 have hm := hx.max
 by_cases hn : n = n'
 ·subst hn
  have HX := hI hx; clear hx
  have HY := hI hy; clear hy
  go_enter Tryz.func67, Tryz.ntmps67
  go_wp2
  go_loopw [5, 13] (fun _ i wr => ∃ k : Nat, k ≤ n ∧ i = .int .i64 k ∧ xs.take k = ys.take k ∧ Below w.heap.size w wr) (fun _ i _ => n - (intOf i).toNat)
  case atStart => exact ⟨0, Nat.zero_le _, rfl, by simp, bel⟩
  case round =>
   obtain ⟨k, hk, rfl, hall, hB⟩ := hrel
   have HA := hI hall; clear hall
   by_cases hlt : k < n
   ·obtain ⟨b, off, p, m, rfl, hb, hxk, hc0, hc1⟩ := (HX.out.below hB rr).at_ hlt
    obtain ⟨b', off', p', m', rfl, hb', hyk, hc0', hc1'⟩ := (HY.out.below hB rr).at_ hlt
    have HK := hI hxk; clear hxk
    have HK' := hI hyk; clear hyk
    go_wp2
    by_cases he : (p == p' && m == m') = true
    ·have hpe : p = p' ∧ m = m' := by simpa using he
     obtain ⟨rfl, rfl⟩ := hpe
     have HS := hI (take_snoc' xs k (p, m) HK.out)
     have HS' := hI (take_snoc' ys k (p, m) HK'.out)
     go_quiet (fail)
     go_wp2
     go_roundw
     case rel => exact ⟨k + 1, by omega, by go_num, by rw [HS.out, HS'.out, HA.out], bel⟩
     case measure => simp [intOf]; omega
    ·have hf : decide (xs = ys) = false := by
      apply decide_eq_false
      rintro rfl
      have := HK.out.symm.trans HK'.out
      simp only [Option.some.injEq, Prod.mk.injEq] at this
      simp [this] at he
     have HF := hI hf; clear hf
     by_cases h1 : p = p'
     ·subst h1
      have he1 : (m == m') = false := by simpa using he
      have he2 : (m != m') = true := by simp only [bne, he1]; rfl
      clear he
      go_quiet (fail)
      go_wp2
      go_ret
      exact ⟨by rw [HF.out]; rfl, bel⟩
     ·have he1 : (p == p') = false := by simpa using h1
      have he2 : (p != p') = true := by simp only [bne, he1]; rfl
      clear he h1
      go_quiet (fail)
      go_wp2
      go_ret
      exact ⟨by rw [HF.out]; rfl, bel⟩
   ·obtain rfl : k = n := by omega
    have hf : decide (xs = ys) = true := by
     apply decide_eq_true
     have := HA.out
     rwa [List.take_of_length_le (by rw [HX.out.len]; exact rr), List.take_of_length_le (by rw [HY.out.len]; exact rr)] at this
    have HF := hI hf; clear hf
    go_wp2
    go_ret
    exact ⟨by rw [HF.out]; rfl, hB⟩
 ·have hf : decide (xs = ys) = false := by
   apply decide_eq_false
   rintro rfl
   exact hn (hx.len.symm.trans hy.len)
  have HF := hI hf; clear hf
  have hne : ((n : Int) != (n' : Int)) = true := by simp; omega
  have HX := hI hx; clear hx
  have HY := hI hy; clear hy
  go_enter Tryz.func67, Tryz.ntmps67
  go_wp2
  go_ret
  exact ⟨by rw [HF.out]; rfl, bel⟩
theorem clone_c (A : Option Addr) (n c : Nat) (xs : List Snd) (w : World) (hx : IsWord w A n c xs) (hb : n ≤ 4096) :
  Calls Tryz.prog 60 #[.slice A n c] w (RetWord w xs) := by
 have HX := hI hx; clear hx
 cases A with
 | none =>
  have hc0 : c = 0 := HX.out.2.2.2.1 rfl
  have hn0 : n = 0 := by have := HX.out.2.1; omega
  subst hc0 hn0
  go_enter Tryz.func60, Tryz.ntmps60
  go_wp2
  go_ret
  obtain rfl : xs = [] := List.eq_nil_of_length_eq_zero HX.out.len
  exact ⟨none, 0, 0, rfl, Cells.nil _ _, Below.refl _ _, fun _ h => by cases h⟩
 | some ad =>
  go_enter Tryz.func60, Tryz.ntmps60
  go_wp2_with (at_builtin; refine append_snd rfl (.tmp 5) (.tmp 6) rfl w.heap.size _ 0 [] rfl (World.ownsRow_made w #[] 0 rr (by simp [maxLen]) rfl) (some ad) n c xs rfl (HX.out.below (B := w.heap.size) bel rr) (by omega) (by simp) ?_; intro v1 w1 hown1 hg1 _)
  go_ret
  exact RetWord.of_own rfl (by simpa using hown1) (own_below (B := w.heap.size) bel (World.ownsRow_made (e := 49) (size := 2) w #[] 0 rr (by simp [maxLen]) rfl) hg1 rr (by simp)) rr
theorem growSnd_c (n : Nat) (w : World) (hb : n ≤ 4096) :
  Calls Tryz.prog 218 #[.slice none 0 0, .int .i64 n] w fun e w' => ∃ v, e = .returned v ∧ w'.ownsRow w.heap.size 49 2 v 0 [] ∧ Below w.heap.size w w' := by
 by_cases h0 : 0 < n
 ·go_enter Tryz.func218, Tryz.ntmps218
  go_wp2_with (at_builtin; refine appendMake_snd rfl (.tmp 20) (.tmp 21) rfl n rfl rfl h0 hb ?_; intro cap cur h1 H2 H3)
  go_ret
  exact ⟨_, rfl, World.ownsRow_made w.drew cur cap rr H2.out H3.out, bel⟩
 ·obtain rfl : n = 0 := by omega
  go_enter Tryz.func218, Tryz.ntmps218
  go_wp2
  go_ret
  exact ⟨_, rfl, World.ownsRow_nil _ _ _ _, Below.refl _ _⟩
theorem concatSnd_c (A : Option Addr) (n c : Nat) (ps : List Part) (w : World) (hx : Cells w A n c 1 (ps.map Part.val)) (hp : Parts w ps) (hb : (catW ps).length ≤ 4096) :
  Calls Tryz.prog 206 #[.slice A n c] w (RetWord w (catW ps)) := by
 have HX := hI hx; clear hx
 have HP := hI hp; clear hp
 have hlen : ps.length = n := by have := HX.out.1; simpa using this
 have HL := hI hlen; clear hlen
 have hm : n ≤ 9223372036854775807 := by have h1 := HX.out.2.1; have h2 := HX.out.2.2.1; unfold maxLen at h2; omega
 have HB := hI hb; clear hb
 go_enter Tryz.func206, Tryz.ntmps206
 go_wp2
 go_loop [3, 5, 11] (fun s _ i => ∃ k m : Nat, k ≤ n ∧ i = .int .i64 k ∧ s = .int .i64 m ∧ Hid (m = (catW (ps.take k)).length)) (fun _ _ i => n - (intOf i).toNat)
 case atStart => exact ⟨0, 0, Nat.zero_le _, rfl, rfl, by simp [catW, Hid]⟩
 case round =>
  obtain ⟨k, m, hk, rfl, rfl, hm2⟩ := hrel
  have hmb : m ≤ 4096 := by have h1 := hm2.out; have h2 := catW_take ps k; have h3 := HB.out; omega
  by_cases hlt : k < n
  ·obtain ⟨b, off, v, rfl, hblt, hv, hc0⟩ := HX.out.at1 hlt
   have hpk : ∃ p, ps[k]? = some p ∧ v = p.val := by
    rw [List.getElem?_map] at hv
    cases hq : ps[k]? with
    | none => rw [hq] at hv; cases hv
    | some p => rw [hq] at hv; exact ⟨p, rfl, by simpa using hv.symm⟩
   clear hv
   obtain ⟨⟨A', n', c', xs⟩, hpk, rfl⟩ := hpk
   have HK := hI hpk; clear hpk
   have hw := HP.out _ (List.mem_of_getElem? HK.out)
   have hs := take_snoc' ps k _ HK.out
   have hcat : (catW (ps.take (k + 1))).length = m + n' := by
    rw [hs, catW_snoc, List.length_append, ← hm2.out]
    have : xs.length = n' := IsWord.len hw
    simp only [Part.word]
    omega
   have hnb : m + n' ≤ 4096 := by have h2 := catW_take ps (k + 1); have h3 := HB.out; omega
   have HC := hI hcat; clear hcat hs hw
   simp only [Part.val] at hc0
   go_wp2
   go_round
   case rel => exact ⟨k + 1, m + n', by omega, by go_num, by go_num, HC.out.symm⟩
   case measure => simp [intOf]; omega
  ·obtain rfl : k = n := by omega
   have hmt : m = (catW ps).length := by have := hm2.out; rwa [List.take_of_length_le (by rw [HL.out]; exact rr)] at this
   have HM := hI hmt; clear hmt
   go_wp2_with (go_at_call 218; refine (growSnd_c _ _ hmb).mono ?_; rintro e w1 ⟨v, rfl, hown, hbl⟩)
   go_loopw [6, 8, 27] (fun v _ i wr => ∃ j q : Nat, j ≤ k ∧ i = .int .i64 j ∧ wr.ownsRow w.heap.size 49 2 v q (wcells (catW (ps.take j))) ∧ q ≤ 4096 ∧ Below w.heap.size w wr) (fun _ _ i _ => k - (intOf i).toNat)
   case atStart => exact ⟨0, 0, Nat.zero_le _, rfl, by simpa [catW, wcells] using hown, by omega, hbl⟩
   case round =>
    obtain ⟨j, q, hj, rfl, hown, hq, hB⟩ := hrel
    by_cases hlt : j < k
    ·obtain ⟨b, off, v, rfl, hblt, hv, hc0⟩ := HX.out.at1 hlt
     have hpk : ∃ p, ps[j]? = some p ∧ v = p.val := by
      rw [List.getElem?_map] at hv
      cases hq : ps[j]? with
      | none => rw [hq] at hv; cases hv
      | some p => rw [hq] at hv; exact ⟨p, rfl, by simpa using hv.symm⟩
     clear hv
     obtain ⟨⟨A', n', c', xs⟩, hpk, rfl⟩ := hpk
     have HK := hI hpk; clear hpk
     have hw : IsWord w A' n' c' xs := HP.out _ (List.mem_of_getElem? HK.out)
     have hs := take_snoc' ps j _ HK.out
     have hql : q = (catW (ps.take j)).length := by have := hown.1; rw [wcells_length] at this; omega
     have hcat : (catW (ps.take (j + 1))).length = q + n' := by
      rw [hs, catW_snoc, List.length_append, ← hql]
      have : xs.length = n' := IsWord.len hw
      simp only [Part.word]
      omega
     have hnb : q + n' ≤ 4096 := by have h2 := catW_take ps (j + 1); have h3 := HB.out; omega
     have HC := hI hcat; clear hcat
     have HQ := hI hql; clear hql
     have HS := hI hs; clear hs
     have hwr := hw.below hB rr
     have hc0' : wr.cell? ⟨b, off + j, none⟩ = some (.slice A' n' c') := (hB.cell (p := ⟨b, off + j, none⟩) hblt).trans hc0
     have HW := hI hwr; clear hwr hw hc0
     go_wp2_with (at_builtin; refine append_snd rfl (.tmp 31) (.tmp 32) rfl w.heap.size _ q (catW (ps.take j)) rfl hown A' n' c' xs rfl HW.out hnb hB.size ?_; intro v1 w1 hown1 hg1 _)
     go_roundw
     case rel =>
      refine ⟨j + 1, q + n', by omega, by go_num, ?_, hnb, own_below hB hown hg1 rr hB.size⟩
      rw [HS.out, catW_snoc]
      exact hown1
     case measure => simp [intOf]; omega
    ·obtain rfl : k = j := by omega
     go_wp2
     go_ret
     have h2 : ps.take k = ps := List.take_of_length_le (by rw [HL.out]; exact rr)
     rw [h2] at hown
     exact RetWord.of_own rfl hown hB rr
structure Nd where
 kind : Int
 isp : Int
 ism : Int
 neg : Bool
 lo : Int
 hi : Int
inductive Fo where
 | nil
 | node (k : Nd) (ch nx : Fo)
def Fo.len : Fo → Nat
 | .nil => 0
 | .node _ _ nx => nx.len + 1
abbrev patV (k : Nd) (A : Option Addr) (n c : Nat) : Value :=
 .agg #[.int .i64 k.kind, .int .u32 k.isp, .int .u32 k.ism, .bool k.neg, .int .i64 k.lo, .int .i64 k.hi, .slice A n c]
def allowedM (k : Nd) (n : Nat) : Int :=
 if k.kind = 0 ∨ k.kind = 2 ∨ k.kind = 6 then
  (if !(k.isp == 0 && k.ism == 0) || k.neg || k.lo != 0 || k.hi != 0 || decide (0 < n) then 2 else 0)
 else if k.kind = 1 then
  (if k.lo != 0 || k.hi != 0 || decide (0 < n) then 2 else if wvalid k.isp k.ism then 0 else 14)
 else if k.kind = 3 ∨ k.kind = 4 then
  (if !(k.isp == 0 && k.ism == 0) || k.neg || k.lo != 0 || k.hi != 0 then 2 else 0)
 else if k.kind = 5 then
  (if n != 1 || decide (k.lo < 0) || decide (32 < k.lo) || (k.hi != -1 && (decide (k.hi < k.lo) || decide (32 < k.hi))) then 2
   else if !(k.isp == 0 && k.ism == 0) || k.neg then 2 else 0)
 else 2
theorem wvalid00 : wvalid 0 0 = true := by decide
theorem allowed0 (isp ism : Int) (neg : Bool) (lo hi : Int) (A : Option Addr) (n c : Nat) (w : World) (hn : n ≤ 9223372036854775807) :
  Calls Tryz.prog 174 #[patV ⟨0, isp, ism, neg, lo, hi⟩ A n c] w fun e w' => e = .returned (.int .i64 (allowedM ⟨0, isp, ism, neg, lo, hi⟩ n)) ∧ Below w.heap.size w w' := by
 go_enter Tryz.func174, Tryz.ntmps174
 go_wp2_with (go_at_call 188; refine (pvalid_c _ _ _).mono ?_; rintro e w1 ⟨rfl, hb1⟩; have hz1 := bsize hb1; (try simp only [World.size_alloc, World.size_drew, World.size_setCell] at hz1); have c0 := fun o => hb1.cell (p := ⟨w.heap.size, o, none⟩) sd; have c1 := fun o => hb1.cell (p := ⟨w.heap.size + 1, o, none⟩) sd; have f0 := fun o => hb1.frozen (p := ⟨w.heap.size, o, none⟩) sd; have f1 := fun o => hb1.frozen (p := ⟨w.heap.size + 1, o, none⟩) sd; have hB1 : Below w.heap.size w w1 := bel; clear hb1)
 all_goals (go_ret; refine ⟨?_, bel⟩; simp [allowedM, wvalid00, *]; try (first | omega | (rename_i hv; simpa using hv)))
theorem allowed1 (isp ism : Int) (neg : Bool) (lo hi : Int) (A : Option Addr) (n c : Nat) (w : World) (hn : n ≤ 9223372036854775807) :
  Calls Tryz.prog 174 #[patV ⟨1, isp, ism, neg, lo, hi⟩ A n c] w fun e w' => e = .returned (.int .i64 (allowedM ⟨1, isp, ism, neg, lo, hi⟩ n)) ∧ Below w.heap.size w w' := by
 go_enter Tryz.func174, Tryz.ntmps174
 go_wp2_with (go_at_call 188; refine (pvalid_c _ _ _).mono ?_; rintro e w1 ⟨rfl, hb1⟩; have hz1 := bsize hb1; (try simp only [World.size_alloc, World.size_drew, World.size_setCell] at hz1); have c0 := fun o => hb1.cell (p := ⟨w.heap.size, o, none⟩) sd; have c1 := fun o => hb1.cell (p := ⟨w.heap.size + 1, o, none⟩) sd; have f0 := fun o => hb1.frozen (p := ⟨w.heap.size, o, none⟩) sd; have f1 := fun o => hb1.frozen (p := ⟨w.heap.size + 1, o, none⟩) sd; have hB1 : Below w.heap.size w w1 := bel; clear hb1)
 all_goals (go_ret; refine ⟨?_, bel⟩; simp [allowedM, wvalid00, *]; try (first | omega | (rename_i hv; simpa using hv)))
theorem allowed2 (isp ism : Int) (neg : Bool) (lo hi : Int) (A : Option Addr) (n c : Nat) (w : World) (hn : n ≤ 9223372036854775807) :
  Calls Tryz.prog 174 #[patV ⟨2, isp, ism, neg, lo, hi⟩ A n c] w fun e w' => e = .returned (.int .i64 (allowedM ⟨2, isp, ism, neg, lo, hi⟩ n)) ∧ Below w.heap.size w w' := by
 go_enter Tryz.func174, Tryz.ntmps174
 go_wp2_with (go_at_call 188; refine (pvalid_c _ _ _).mono ?_; rintro e w1 ⟨rfl, hb1⟩; have hz1 := bsize hb1; (try simp only [World.size_alloc, World.size_drew, World.size_setCell] at hz1); have c0 := fun o => hb1.cell (p := ⟨w.heap.size, o, none⟩) sd; have c1 := fun o => hb1.cell (p := ⟨w.heap.size + 1, o, none⟩) sd; have f0 := fun o => hb1.frozen (p := ⟨w.heap.size, o, none⟩) sd; have f1 := fun o => hb1.frozen (p := ⟨w.heap.size + 1, o, none⟩) sd; have hB1 : Below w.heap.size w w1 := bel; clear hb1)
 all_goals (go_ret; refine ⟨?_, bel⟩; simp [allowedM, wvalid00, *]; try (first | omega | (rename_i hv; simpa using hv)))
theorem allowed3 (isp ism : Int) (neg : Bool) (lo hi : Int) (A : Option Addr) (n c : Nat) (w : World) (hn : n ≤ 9223372036854775807) :
  Calls Tryz.prog 174 #[patV ⟨3, isp, ism, neg, lo, hi⟩ A n c] w fun e w' => e = .returned (.int .i64 (allowedM ⟨3, isp, ism, neg, lo, hi⟩ n)) ∧ Below w.heap.size w w' := by
 go_enter Tryz.func174, Tryz.ntmps174
 go_wp2_with (go_at_call 188; refine (pvalid_c _ _ _).mono ?_; rintro e w1 ⟨rfl, hb1⟩; have hz1 := bsize hb1; (try simp only [World.size_alloc, World.size_drew, World.size_setCell] at hz1); have c0 := fun o => hb1.cell (p := ⟨w.heap.size, o, none⟩) sd; have c1 := fun o => hb1.cell (p := ⟨w.heap.size + 1, o, none⟩) sd; have f0 := fun o => hb1.frozen (p := ⟨w.heap.size, o, none⟩) sd; have f1 := fun o => hb1.frozen (p := ⟨w.heap.size + 1, o, none⟩) sd; have hB1 : Below w.heap.size w w1 := bel; clear hb1)
 all_goals (go_ret; refine ⟨?_, bel⟩; simp [allowedM, wvalid00, *]; try (first | omega | (rename_i hv; simpa using hv)))
theorem allowed4 (isp ism : Int) (neg : Bool) (lo hi : Int) (A : Option Addr) (n c : Nat) (w : World) (hn : n ≤ 9223372036854775807) :
  Calls Tryz.prog 174 #[patV ⟨4, isp, ism, neg, lo, hi⟩ A n c] w fun e w' => e = .returned (.int .i64 (allowedM ⟨4, isp, ism, neg, lo, hi⟩ n)) ∧ Below w.heap.size w w' := by
 go_enter Tryz.func174, Tryz.ntmps174
 go_wp2_with (go_at_call 188; refine (pvalid_c _ _ _).mono ?_; rintro e w1 ⟨rfl, hb1⟩; have hz1 := bsize hb1; (try simp only [World.size_alloc, World.size_drew, World.size_setCell] at hz1); have c0 := fun o => hb1.cell (p := ⟨w.heap.size, o, none⟩) sd; have c1 := fun o => hb1.cell (p := ⟨w.heap.size + 1, o, none⟩) sd; have f0 := fun o => hb1.frozen (p := ⟨w.heap.size, o, none⟩) sd; have f1 := fun o => hb1.frozen (p := ⟨w.heap.size + 1, o, none⟩) sd; have hB1 : Below w.heap.size w w1 := bel; clear hb1)
 all_goals (go_ret; refine ⟨?_, bel⟩; simp [allowedM, wvalid00, *]; try (first | omega | (rename_i hv; simpa using hv)))
theorem allowed5 (isp ism : Int) (neg : Bool) (lo hi : Int) (A : Option Addr) (n c : Nat) (w : World) (hn : n ≤ 9223372036854775807) :
  Calls Tryz.prog 174 #[patV ⟨5, isp, ism, neg, lo, hi⟩ A n c] w fun e w' => e = .returned (.int .i64 (allowedM ⟨5, isp, ism, neg, lo, hi⟩ n)) ∧ Below w.heap.size w w' := by
 by_cases e2 : hi ≤ 32
 ·go_enter Tryz.func174, Tryz.ntmps174
  go_wp2_with (go_at_call 188; refine (pvalid_c _ _ _).mono ?_; rintro e w1 ⟨rfl, hb1⟩; have hz1 := bsize hb1; (try simp only [World.size_alloc, World.size_drew, World.size_setCell] at hz1); have c0 := fun o => hb1.cell (p := ⟨w.heap.size, o, none⟩) sd; have c1 := fun o => hb1.cell (p := ⟨w.heap.size + 1, o, none⟩) sd; have f0 := fun o => hb1.frozen (p := ⟨w.heap.size, o, none⟩) sd; have f1 := fun o => hb1.frozen (p := ⟨w.heap.size + 1, o, none⟩) sd; have hB1 : Below w.heap.size w w1 := bel; clear hb1)
  all_goals (go_ret; refine ⟨?_, bel⟩; simp [allowedM, wvalid00, *]; try (first | omega | (rename_i hv; simpa using hv)))
 ·have e3 : (hi != -1) = true := by simp; omega
  go_enter Tryz.func174, Tryz.ntmps174
  go_wp2_with (go_at_call 188; refine (pvalid_c _ _ _).mono ?_; rintro e w1 ⟨rfl, hb1⟩; have hz1 := bsize hb1; (try simp only [World.size_alloc, World.size_drew, World.size_setCell] at hz1); have c0 := fun o => hb1.cell (p := ⟨w.heap.size, o, none⟩) sd; have c1 := fun o => hb1.cell (p := ⟨w.heap.size + 1, o, none⟩) sd; have f0 := fun o => hb1.frozen (p := ⟨w.heap.size, o, none⟩) sd; have f1 := fun o => hb1.frozen (p := ⟨w.heap.size + 1, o, none⟩) sd; have hB1 : Below w.heap.size w w1 := bel; clear hb1)
  all_goals (go_ret; refine ⟨?_, bel⟩; simp [allowedM, wvalid00, *]; try (first | omega | (rename_i hv; simpa using hv)))
theorem allowed6 (isp ism : Int) (neg : Bool) (lo hi : Int) (A : Option Addr) (n c : Nat) (w : World) (hn : n ≤ 9223372036854775807) :
  Calls Tryz.prog 174 #[patV ⟨6, isp, ism, neg, lo, hi⟩ A n c] w fun e w' => e = .returned (.int .i64 (allowedM ⟨6, isp, ism, neg, lo, hi⟩ n)) ∧ Below w.heap.size w w' := by
 go_enter Tryz.func174, Tryz.ntmps174
 go_wp2_with (go_at_call 188; refine (pvalid_c _ _ _).mono ?_; rintro e w1 ⟨rfl, hb1⟩; have hz1 := bsize hb1; (try simp only [World.size_alloc, World.size_drew, World.size_setCell] at hz1); have c0 := fun o => hb1.cell (p := ⟨w.heap.size, o, none⟩) sd; have c1 := fun o => hb1.cell (p := ⟨w.heap.size + 1, o, none⟩) sd; have f0 := fun o => hb1.frozen (p := ⟨w.heap.size, o, none⟩) sd; have f1 := fun o => hb1.frozen (p := ⟨w.heap.size + 1, o, none⟩) sd; have hB1 : Below w.heap.size w w1 := bel; clear hb1)
 all_goals (go_ret; refine ⟨?_, bel⟩; simp [allowedM, wvalid00, *]; try (first | omega | (rename_i hv; simpa using hv)))
theorem allowed_other (kind isp ism : Int) (neg : Bool) (lo hi : Int) (A : Option Addr) (n c : Nat) (w : World) (h0 : kind ≠ 0) (h1 : kind ≠ 1) (h2 : kind ≠ 2) (h3 : kind ≠ 3) (h4 : kind ≠ 4) (h5 : kind ≠ 5) (h6 : kind ≠ 6) :
  Calls Tryz.prog 174 #[patV ⟨kind, isp, ism, neg, lo, hi⟩ A n c] w fun e w' => e = .returned (.int .i64 (allowedM ⟨kind, isp, ism, neg, lo, hi⟩ n)) ∧ Below w.heap.size w w' := by
 have hv : allowedM ⟨kind, isp, ism, neg, lo, hi⟩ n = 2 := by simp [allowedM, h0, h1, h2, h3, h4, h5, h6]
 have H := hI hv; clear hv
 have b0 : (kind == 0) = false := by simpa using h0
 have b1 : (kind == 1) = false := by simpa using h1
 have b2 : (kind == 2) = false := by simpa using h2
 have b3 : (kind == 3) = false := by simpa using h3
 have b4 : (kind == 4) = false := by simpa using h4
 have b5 : (kind == 5) = false := by simpa using h5
 have b6 : (kind == 6) = false := by simpa using h6
 clear h0 h1 h2 h3 h4 h5 h6
 go_enter Tryz.func174, Tryz.ntmps174
 go_wp2_with (go_at_call 188; refine (pvalid_c _ _ _).mono ?_; rintro e w1 ⟨rfl, hb1⟩; have hz1 := bsize hb1; (try simp only [World.size_alloc, World.size_drew, World.size_setCell] at hz1); have c0 := fun o => hb1.cell (p := ⟨w.heap.size, o, none⟩) sd; have c1 := fun o => hb1.cell (p := ⟨w.heap.size + 1, o, none⟩) sd; have f0 := fun o => hb1.frozen (p := ⟨w.heap.size, o, none⟩) sd; have f1 := fun o => hb1.frozen (p := ⟨w.heap.size + 1, o, none⟩) sd; have hB1 : Below w.heap.size w w1 := bel; clear hb1)
 go_ret
 exact ⟨by rw [H.out]; rfl, bel⟩
theorem allowed_c (k : Nd) (A : Option Addr) (n c : Nat) (w : World) (hn : n ≤ 9223372036854775807) :
  Calls Tryz.prog 174 #[patV k A n c] w fun e w' => e = .returned (.int .i64 (allowedM k n)) ∧ Below w.heap.size w w' := by
 obtain ⟨kind, isp, ism, neg, lo, hi⟩ := k
 by_cases h0 : kind = 0
 ·subst h0; exact allowed0 _ _ _ _ _ _ _ _ _ hn
 by_cases h1 : kind = 1
 ·subst h1; exact allowed1 _ _ _ _ _ _ _ _ _ hn
 by_cases h2 : kind = 2
 ·subst h2; exact allowed2 _ _ _ _ _ _ _ _ _ hn
 by_cases h3 : kind = 3
 ·subst h3; exact allowed3 _ _ _ _ _ _ _ _ _ hn
 by_cases h4 : kind = 4
 ·subst h4; exact allowed4 _ _ _ _ _ _ _ _ _ hn
 by_cases h5 : kind = 5
 ·subst h5; exact allowed5 _ _ _ _ _ _ _ _ _ hn
 by_cases h6 : kind = 6
 ·subst h6; exact allowed6 _ _ _ _ _ _ _ _ _ hn
 exact allowed_other _ _ _ _ _ _ _ _ _ _ h0 h1 h2 h3 h4 h5 h6
end Go.Proofs.YtaglfmlgbcmakaaGreatDoor
namespace Go.Proofs.YtaglfmlgbcmakaaGreatDoor
open Go.RowKit Go.Shelf
variable {P : Program} {n : Nat}
abbrev mark (D : Nat) : Deferred := { target := .collected D, args := #[] }
def Marks (B : Nat) (w : World) : List Deferred → Prop
 | [] => True
 | d :: ds => ∃ D, d = mark D ∧ B ≤ D ∧ w.heap[D]? = some (.deferred (some [])) ∧ (∀ D', mark D' ∈ ds → D' < D) ∧ Marks B w ds
structure Shut (B : Nat) (w w' : World) : Prop where
 os : w'.os = w.os
 tape : w'.tape = w.tape
 output : w'.output = w.output
 size : w'.heap.size = w.heap.size
 block : ∀ k, w'.heap[k]? = w.heap[k]? ∨ (B ≤ k ∧ ∃ x, w.heap[k]? = some (.deferred x))
theorem Shut.refl (B : Nat) (w : World) : Shut B w w := ⟨rfl, rfl, rfl, rfl, fun _ => .inl rfl⟩
theorem Shut.below {B : Nat} {w w' : World} (h : Shut B w w') : Below B w w' :=
 ⟨h.os, h.tape, h.output, by rw [h.size]; exact rr, fun k hk => by rcases h.block k with e | ⟨e, _⟩; exact e; omega⟩
theorem Shut.row {B : Nat} {w w' : World} (h : Shut B w w') {k : Nat} {cs : Array Value} {t : TypeId} {fr : Nat × Nat} (hk : w.heap[k]? = some (.cells cs t fr)) : w'.heap[k]? = some (.cells cs t fr) := by
 rcases h.block k with e | ⟨_, x, e⟩
 ·rw [e]; exact hk
 ·rw [hk] at e; cases e
theorem Marks.mono {B : Nat} {w w' : World} : ∀ {ds : List Deferred}, Marks B w ds → (∀ D, mark D ∈ ds → w.heap[D]? = some (.deferred (some [])) → w'.heap[D]? = some (.deferred (some []))) → Marks B w' ds
 | [], _, _ => trivial
 | _ :: _, ⟨D, hd, hB, hk, hlt, hr⟩, h => ⟨D, hd, hB, h D (by rw [hd]; exact List.mem_cons_self ..) hk, hlt, Marks.mono hr fun D' hm hk' => h D' (List.mem_cons_of_mem _ hm) hk'⟩
theorem Marks.at_ {B : Nat} {w : World} : ∀ {ds : List Deferred}, Marks B w ds → ∀ D, mark D ∈ ds → w.heap[D]? = some (.deferred (some [])) ∧ B ≤ D
 | [], _, _, h => by simp at h
 | _ :: _, ⟨D, hd, hB, hk, hlt, hr⟩, D', h => by
  rw [hd] at h
  rcases List.mem_cons.1 h with e | e
  ·have : D' = D := by injection e with e1 _; injection e1
   subst this; exact ⟨hk, hB⟩
  ·exact Marks.at_ hr D' e
theorem Shut.trans {B : Nat} {a b c : World} (h : Shut B a b) (k : Shut B b c) : Shut B a c := by
 refine ⟨k.os.trans h.os, k.tape.trans h.tape, k.output.trans h.output, k.size.trans h.size, fun i => ?_⟩
 rcases k.block i with e | ⟨hB, x, e⟩
 ·rw [e]; exact h.block i
 ·rcases h.block i with e' | ⟨hB', x', e'⟩
  ·rw [e'] at e; exact .inr ⟨hB, x, e⟩
  ·exact .inr ⟨hB', x', e'⟩
theorem leavesM {F : Fence} {fn : Func} {tmps : Array Value} {R : Ending → World → Prop} {B : Nat} : ∀ (ds : List Deferred) (w : World), Marks B w ds →
  (∀ w', Shut B w w' → ∃ v, (results fn tmps).run P w' = .ok v w' ∧ R (.returned v) w') → LeavesInM F n P fn tmps R ds .returning w
 | [], w, _, h => h w (Shut.refl B w)
 | _ :: ds, w, ⟨D, hd, hB, hk, hlt, hr⟩, h => by
  subst hd
  refine ⟨by simp, .inl ⟨D, _, rfl, run_takeDeferred hk, ?_⟩⟩
  have hDl : D < w.heap.size := (Array.getElem?_eq_some_iff.1 hk).1
  have hs : Shut B w (w.putObj D (.deferred none)) := ⟨rfl, rfl, rfl, by simp, fun k => by
   by_cases e : k = D
   ·subst e; exact .inr ⟨hB, _, hk⟩
   ·exact .inl (World.putObj_heap_other e)⟩
  refine leavesM ds _ (Marks.mono hr fun D' hm hk' => ?_) fun w' hw' => h w' (hs.trans hw')
  rw [World.putObj_heap_other (by have := hlt D' hm; omega)]
  exact hk'
theorem leavesM_panic {F : Fence} {fn : Func} {tmps : Array Value} {R : Ending → World → Prop} {B : Nat} {ch : List PanicEntry} : ∀ (ds : List Deferred) (w : World), Marks B w ds →
  (∀ w', Shut B w w' → R (.panicked ch) w') → LeavesInM F n P fn tmps R ds (.panicking ch) w
 | [], w, _, h => h w (Shut.refl B w)
 | _ :: ds, w, ⟨D, hd, hB, hk, hlt, hr⟩, h => by
  subst hd
  refine ⟨by simp, .inl ⟨D, _, rfl, run_takeDeferred hk, ?_⟩⟩
  have hDl : D < w.heap.size := (Array.getElem?_eq_some_iff.1 hk).1
  have hs : Shut B w (w.putObj D (.deferred none)) := ⟨rfl, rfl, rfl, by simp, fun k => by
   by_cases e : k = D
   ·subst e; exact .inr ⟨hB, _, hk⟩
   ·exact .inl (World.putObj_heap_other e)⟩
  refine leavesM_panic ds _ (Marks.mono hr fun D' hm hk' => ?_) fun w' hw' => h w' (hs.trans hw')
  rw [World.putObj_heap_other (by have := hlt D' hm; omega)]
  exact hk'
structure Keep (S : Nat → Prop) (w w' : World) : Prop where
 os : w'.os = w.os
 tape : w'.tape = w.tape
 output : w'.output = w.output
 size : w.heap.size ≤ w'.heap.size
 block : ∀ k, k < w.heap.size → ¬ S k → w'.heap[k]? = w.heap[k]?
section keep
variable {S : Nat → Prop} {a w w' : World}
theorem Keep.refl (S : Nat → Prop) (w : World) : Keep S w w := ⟨rfl, rfl, rfl, rr, fun _ _ _ => rfl⟩
theorem Keep.trans (h : Keep S a w) (k : Keep S w w') : Keep S a w' :=
 ⟨k.os.trans h.os, k.tape.trans h.tape, k.output.trans h.output, Nat.le_trans h.size k.size, fun i hi hs => (k.block i (Nat.lt_of_lt_of_le hi h.size) hs).trans (h.block i hi hs)⟩
theorem Keep.alloc (h : Keep S a w) (o : Obj) : Keep S a (w.alloc o) :=
 h.trans ⟨rfl, rfl, rfl, by simp, fun k hk _ => Below.heap_alloc _ _ _ hk⟩
theorem Keep.setCell (h : Keep S a w) {p : Addr} (hp : S p.block) (u : Value) : Keep S a (w.setCell p u) :=
 h.trans ⟨rfl, rfl, rfl, by simp, fun k _ hs => Below.heap_setCell _ _ _ _ (fun e => hs (e ▸ hp))⟩
theorem Keep.putObj (h : Keep S a w) {l : Nat} (hl : S l) (o : Obj) : Keep S a (w.putObj l o) :=
 h.trans ⟨rfl, rfl, rfl, by simp, fun k _ hs => World.putObj_heap_other (fun e => hs (e ▸ hl))⟩
theorem Keep.drew (h : Keep S a w) : Keep S a w.drew := ⟨h.os, h.tape, h.output, h.size, h.block⟩
theorem Keep.drewN (h : Keep S a w) (n : Nat) : Keep S a (w.drewN n) := ⟨h.os, h.tape, h.output, h.size, h.block⟩
theorem Keep.below (h : Keep S a w) {B : Nat} (hb : Below B w w') (hB : w.heap.size ≤ B) : Keep S a w' :=
 h.trans ⟨hb.os, hb.tape, hb.output, hb.size, fun k hk _ => hb.block k (Nat.lt_of_lt_of_le hk hB)⟩
theorem Keep.to_below (h : Keep S a w) {B : Nat} (hS : ∀ k, S k → B ≤ k) (hB : B ≤ a.heap.size) : Below B a w :=
 ⟨h.os, h.tape, h.output, h.size, fun k hk => h.block k (by omega) (fun hs => by have := hS k hs; omega)⟩
theorem Keep.mono {S' : Nat → Prop} (h : Keep S a w) (hs : ∀ k, S k → S' k) : Keep S' a w := ⟨h.os, h.tape, h.output, h.size, fun k hk hn => h.block k hk (fun x => hn (hs k x))⟩
end keep
theorem Marks.keep {S : Nat → Prop} {B : Nat} {w w' : World} {ds : List Deferred} (h : Marks B w ds) (hk : Keep S w w') (hS : ∀ k, S k → ∀ o, w.heap[k]? = some o → o ≠ .deferred (some [])) : Marks B w' ds :=
 h.mono fun D _ hD => (hk.block D (Array.getElem?_eq_some_iff.1 hD).1 (fun hs => hS D hs _ hD rfl)).trans hD
theorem post_ret {fn : Func} {R : Ending → World → Prop} {a : Act} {w : World} {B : Nat} (hM : Marks B w a.defers)
  (h : ∀ w', Shut B w w' → ∃ v, (results fn a.tmps).run P w' = .ok v w' ∧ R (.returned v) w') : bodyPostM Fence.wide n P fn R .ret a w := leavesM _ _ hM h
theorem post_end {fn : Func} {R : Ending → World → Prop} {a : Act} {w : World} {B : Nat} (hM : Marks B w a.defers)
  (h : ∀ w', Shut B w w' → ∃ v, (results fn a.tmps).run P w' = .ok v w' ∧ R (.returned v) w') : bodyPostM Fence.wide n P fn R .normal a w := leavesM _ _ hM h
theorem post_panic {fn : Func} {R : Ending → World → Prop} {a : Act} {w : World} {B : Nat} {ch : List PanicEntry} (hM : Marks B w a.defers)
  (h : ∀ w', Shut B w w' → R (.panicked ch) w') : bodyPostM Fence.wide n P fn R (.panic ch) a w := leavesM_panic _ _ hM h
abbrev recOf (fn : FuncId) (tmps : Array Value) (ps : Array Tmp) (assign body : Code) (D : Nat) (st : LoopState) (pe : Option Code) : Loop :=
 { state := st, pending := pe, fn, tmps, params := ps, assign, body, defers := D }
def afterRange (rec : LoopState → Option Code → Loop) (l : Nat) (Q : Exit → Act → World → Prop) (a' : Act) : Ending → World → Prop
 | .returned _, W => (W.heap[l]? = some (.loop (rec .ready none)) ∧ Q .normal a' (W.putObj l (.loop (rec .exhausted none)))) ∨
   (∃ c, W.heap[l]? = some (.loop (rec .done (some c))) ∧ c.wpIn Fence.wide n P Q a' (W.putObj l (.loop (rec .exhausted (some c)))))
 | .panicked ch, W => Q (.panic ch) a' W
 | .outgrown, _ => False
theorem wide_range {g : Operand} {ps : Array Tmp} {assign body : Code} {Q : Exit → Act → World → Prop} {a : Act} {w : World} {gf : Nat} {lb : Array Value}
  (hg : a.eval g = .func (.func gf) #[] lb) (eg : Enters P gf)
  (h : ∀ fn D l (rc : LoopState → Option Code → Loop) W1, rc = recOf fn a.tmps ps assign body D → D = w.heap.size → l = w.heap.size + 1 → Keep (fun _ => False) w W1 →
   W1.heap[D]? = some (.deferred (some [])) → W1.heap[l]? = some (.loop (rc .ready none)) → W1.heap.size = w.heap.size + 1 + 1 →
   CallsIn Fence.wide (n - 1) P gf (#[.func (.yield l) #[] #[]] ++ lb) W1 (afterRange (P := P) (n := n) rc l Q { a with defers := mark D :: a.defers })) :
  (Code.rangeFunc g ps assign body).wpIn Fence.wide n P Q a w := by
 refine wpIn_rangeFunc fun fn hfn => ?_
 obtain ⟨W1, hW1⟩ : ∃ W1, (w.alloc (.deferred (some []))).alloc (.loop (recOf fn a.tmps ps assign body w.heap.size .ready none)) = W1 := ⟨_, rfl⟩
 have h' := h fn w.heap.size (w.heap.size + 1) (recOf fn a.tmps ps assign body w.heap.size) W1 rfl rfl rfl (by rw [← hW1]; exact ((Keep.refl _ _).alloc _).alloc _)
  (by rw [← hW1]; exact (heap_old_at (by simp)).trans (heap_new_at rfl)) (by rw [← hW1]; exact heap_new_at (by simp)) (by rw [← hW1]; simp)
 refine ⟨w.heap.size + 1, [mark w.heap.size], W1, { target := .fn (.func gf) lb, args := #[.func (.yield (w.heap.size + 1)) #[] #[]] }, W1, gf,
  #[.func (.yield (w.heap.size + 1)) #[] #[]] ++ lb, W1, by rw [← hW1]; exact run_enterLoop_outer _ _ _ _ _, ?_, fun _ _ => trivial, ?_, fun hd => ?_, ?_⟩
 ·simp only [resolve, hg]
  simp [go_sem]
 ·simp only [invoke]; exact eg _ _
 ·simp [Fence.wide] at hd
 ·refine h'.mono fun e W hW => ?_
  cases e with
  | returned v =>
   rcases hW with ⟨hl, hq⟩ | ⟨c, hl, hq⟩
   ·exact ⟨none, _, run_endLoop hl (by simp), hq⟩
   ·exact ⟨some c, _, run_endLoop hl (by simp), hq⟩
  | panicked ch => exact hW
  | outgrown => exact hW.elim
def roundEnd (rec : LoopState → Option Code → Loop) (l : Nat) (R : Ending → World → Prop) : Exit → Act → World → Prop
 | .normal, _, W => W.heap[l]? = some (.loop (rec .busy none)) ∧ R (.returned (.bool true)) (W.putObj l (.loop (rec .ready none)))
 | .ret, _, W => W.heap[l]? = some (.loop (rec .busy none)) ∧ R (.returned (.bool false)) (W.putObj l (.loop (rec .done (some .ret))))
 | .exit id, _, W => W.heap[l]? = some (.loop (rec .busy none)) ∧ R (.returned (.bool false)) (W.putObj l (.loop (rec .done (some (.exit id)))))
 | _, _, _ => False
theorem wide_round {fn : FuncId} {tmps : Array Value} {ps : Array Tmp} {assign body : Code} {D l : Nat} {args : Array Value} {W : World} {R : Ending → World → Prop} {rc : LoopState → Option Code → Loop}
  (hrc : rc = recOf fn tmps ps assign body D) (hl : W.heap[l]? = some (.loop (rc .ready none))) (hs : args.size = ps.size)
  (h : assign.wpIn (Fence.wide.inRound l) n P (Exit.then (fun a₁ W₁ => W₁.heap[l]? = some (.loop (rc .ready none)) ∧
    body.wpIn (Fence.wide.inRound l) n P (roundEnd rc l R) a₁ (W₁.putObj l (.loop (rc .busy none)))) (fun _ _ _ => False))
   { tmps := (ps.zip args).foldl (fun t (p, v) => t.setIfInBounds p v) tmps, defers := [] } W) :
  YieldAt Fence.wide n P l args W R := by
 subst hrc
 refine ⟨fn, _, assign, body, run_yield hl (by rw [hs]), roundIn_of_wpIn trivial (wpIn_mono h ?_)⟩
 rintro e a₁ W₁ hq
 cases e with
 | normal =>
  obtain ⟨hl1, hb⟩ := hq
  refine ⟨_, run_beginRound hl1 rfl, wpIn_mono hb ?_⟩
  rintro e a₂ W₂ hq
  cases e with
  | normal => exact ⟨_, _, run_endRound none hq.1, hq.2⟩
  | ret => exact ⟨_, _, run_endRound (some .ret) hq.1, hq.2⟩
  | exit id => exact ⟨_, _, run_endRound (some (.exit id)) hq.1, hq.2⟩
  | goto t => exact hq.elim
  | panic ch => exact hq.elim
  | outgrown => exact hq.elim
 | ret => exact hq.elim
 | exit id => exact hq.elim
 | goto t => exact hq.elim
 | panic ch => exact hq.elim
 | outgrown => exact hq.elim
/-! A region that draws its order, inside a round. -/
theorem round_op {o : Oper} {l : Nat} {a : Act} {w : World} {K : Act → World → Prop} {Q : Exit → Act → World → Prop} (hnd : ∀ c, o.op ≠ .defer c) (hQ : ∀ a w, ¬ Q .outgrown a w)
  (h : o.wp P a w K Q) : o.wpIn (Fence.wide.inRound l) n P a w K Q := by
 refine ⟨fun _ _ => trivial, ?_⟩
 rw [Oper.semAt_eq _ _ _ hnd]
 unfold Oper.wp at h
 generalize (execOp a.eval o).run P w = r at *
 have hout : ¬ LetsOut Q := fun ⟨a, w, h⟩ => hQ a w h
 cases r with
 | ok x w' =>
  cases x <;> simp only [Oper.upon, Oper.uponIn] at h ⊢ <;>
   first
    | exact h
    | exact ⟨fun hd => by simp [Fence.inRound, Fence.wide] at hd, CallsIn.inRound l (callsIn_wide.2 h)⟩
    | exact ⟨fun hd => by simp [Fence.inRound, Fence.wide] at hd, fun c cs _ => let ⟨v, w'', r, s⟩ := h c cs; ⟨v, w'', r, stepsIn_wide.2 s⟩⟩
    | exact h.elim
 | halt x w' => cases x <;> simp only [Oper.upon, Oper.uponIn] at h ⊢ <;> exact h
theorem round_any {ops : Array Oper} {l : Nat} {Q : Exit → Act → World → Prop} {md : Region.Mode} (hnd : ∀ (i : Nat) o, ops[i]? = some o → ∀ c, o.op ≠ .defer c) (hQ : ∀ a w, ¬ Q .outgrown a w) :
  ∀ (fuel : Nat) (listed : Array Bool) (a : Act) (w : World), wpAny P md ops Q fuel listed a w → wpAnyIn (Fence.wide.inRound l) n P md ops Q fuel listed a w
 | 0, _, _, _, h => h
 | fuel + 1, listed, a, w, h => ⟨h.1, fun i hi => by
   have h2 := h.2 i hi
   unfold wpOp at h2
   unfold wpOpIn
   cases ho : ops[i]? with
   | none => rw [ho] at h2; exact round_any hnd hQ fuel _ _ _ h2
   | some o =>
    rw [ho] at h2
    simp only at h2 ⊢
    split
    ·rename_i hw
     rw [if_pos hw] at h2
     rcases h2 with h2 | ⟨_, a', w', h3⟩
     ·exact Oper.wpIn_mono (fun a w h => round_any hnd hQ fuel _ _ _ h) (round_op (hnd i o ho) hQ h2)
     ·exact (hQ _ _ h3).elim
    ·rename_i hw
     rw [if_neg hw] at h2
     exact ⟨fun _ _ => trivial, round_any hnd hQ fuel _ _ _ h2⟩⟩
def noDefer (ops : Array Oper) : Bool := ops.all fun o => match o.op with | .defer _ => false | _ => true
theorem noDefer_spec {ops : Array Oper} (h : noDefer ops = true) : ∀ (i : Nat) o, ops[i]? = some o → ∀ c, o.op ≠ .defer c := by
 intro i o ho c hc
 have h1 := (Array.all_eq_true.1 h) i (Array.getElem?_eq_some_iff.1 ho).1
 rw [(Array.getElem?_eq_some_iff.1 ho).2, hc] at h1
 simp at h1
/-! A condition on the world that holds till the last operation has come up. -/
section held
variable {ops : Array Oper} {Q : Exit → Act → World → Prop} {md : Region.Mode} {S : World → Prop}
def allDone (l : Array Bool) : Bool := l.all id
def anyT (P : Program) (md : Region.Mode) (ops : Array Oper) (Q : Exit → Act → World → Prop) (S : World → Prop) : Nat → Array Bool → Act → World → Prop
 | 0, listed, a, w => Region.ready md ops listed = [] ∧ Q .normal a w
 | fuel + 1, listed, a, w =>
  (Region.ready md ops listed = [] → Q .normal a w) ∧
  ∀ i ∈ Region.ready md ops listed, wpOp P ops Q i (fun a' w' => (allDone (listed.setIfInBounds i true) = true ∨ S w') ∧ anyT P md ops Q S fuel (listed.setIfInBounds i true) a' w') a w
theorem any_of_T : ∀ (fuel : Nat) (listed : Array Bool) (a : Act) (w : World), anyT P md ops Q S fuel listed a w → wpAny P md ops Q fuel listed a w
 | 0, _, _, _, h => h
 | fuel + 1, _, _, _, h => ⟨h.1, fun i hi => wpOp_mono (fun a' w' h' => any_of_T fuel _ a' w' h'.2) (h.2 i hi)⟩
theorem not_done {l : Array Bool} {k : Nat} (h : l[k]? = some false) : ¬ allDone l = true := by
 intro hd
 have h1 := (Array.all_eq_true.1 hd) k (Array.getElem?_eq_some_iff.1 h).1
 rw [(Array.getElem?_eq_some_iff.1 h).2] at h1
 cases h1
theorem anyT_first {i k : Nat} {oi ok : Oper} {v : Value} (hi : ops[i]? = some oi) (hk : ops[k]? = some ok) (hki : ∃ e ∈ ok.after, Region.binds md e = true ∧ e.on = i)
  (hsel : ∀ (j : Nat) (o : Oper) cs b, ops[j]? = some o → o.op ≠ .select cs b) (hQ : ∀ c a w, Q (.panic c) (a.put oi.dst v) w → Q (.panic c) a w) :
  ∀ (fuel : Nat) (listed : Array Bool) (a : Act) (w : World),
   (∀ j oj, ops[j]? = some oj → j ≠ i → listed.getD j true = false → (∀ e ∈ oj.after, Region.binds md e = true → e.on ≠ i) → oi.apart ops oj = true) →
   i ∈ Region.ready md ops listed → listed[k]? = some false → k ≠ i → YieldsIf P ops S oi v a → S w →
   anyT P md ops Q S fuel (listed.setIfInBounds i true) (a.put oi.dst v) w → anyT P md ops Q S (fuel + 1) listed a w := by
 intro fuel
 induction fuel with
 | zero =>
  intro listed a w _ hr hku hne hy hS H
  refine ⟨fun h => (by rw [h] at hr; cases hr), fun j hj => ?_⟩
  by_cases hji : j = i
  ·subst hji; exact hy.wpOp hi hS ⟨.inr hS, H⟩
  ·have := ready_mono hj hji
   rw [H.1] at this
   cases this
 | succ fuel ih =>
  intro listed a w hfree hr hku hne hy hS H
  refine ⟨fun h => (by rw [h] at hr; cases hr), fun j hj => ?_⟩
  by_cases hji : j = i
  ·subst hji; exact hy.wpOp hi hS ⟨.inr hS, H⟩
  ·have h1 := H.2 j (ready_mono hj hji)
   obtain ⟨hjun, oj, hoj, hall⟩ := mem_ready.1 hj
   have hnot : ∀ e ∈ oj.after, Region.binds md e = true → e.on ≠ i := fun e he hb heq => by
    have h1 := hall e he hb
    have h0 := (mem_ready.1 hr).1
    rw [heq] at h1
    rcases Nat.lt_or_ge i listed.size with h' | h'
    ·simp [h'] at h0 h1; rw [h0] at h1; cases h1
    ·simp [Array.getElem?_eq_none h'] at h1
   have hjk : j ≠ k := by
    rintro rfl
    obtain ⟨e, he, hb, hon⟩ := hki
    rw [hk] at hoj; cases hoj
    exact hnot e he hb hon
   have hku1 : (listed.setIfInBounds j true)[k]? = some false := by rw [Array.getElem?_setIfInBounds_ne hjk]; exact hku
   have hku2 : ((listed.setIfInBounds i true).setIfInBounds j true)[k]? = some false := by
    rw [Array.getElem?_setIfInBounds_ne hjk, Array.getElem?_setIfInBounds_ne (Ne.symm hne)]; exact hku
   have h2 := wpOp_putIf hoj (hfree j oj hoj hji hjun hnot) (fun cs b => hsel i oi cs b hi) (fun cs b => hsel j oj cs b hoj) hQ hy h1
   have hfree' : ∀ k ok, ops[k]? = some ok → k ≠ i → (listed.setIfInBounds j true).getD k true = false →
     (∀ e ∈ ok.after, Region.binds md e = true → e.on ≠ i) → oi.apart ops ok = true := fun k ok hk hki hun hno => by
    refine hfree k ok hk hki ?_ hno
    by_cases hjk : j = k
    ·subst hjk; exact hjun
    ·rw [getD_set_ne true hjk] at hun; exact hun
   refine wpOp_mono (fun a' w' h3 => ?_) h2
   obtain ⟨hy', hdone, hrest⟩ := h3
   have hS' : S w' := hdone.resolve_left (not_done hku2)
   refine ⟨.inr hS', ih (listed.setIfInBounds j true) a' w' hfree' (ready_mono hr (Ne.symm hji)) hku1 hne hy' hS' ?_⟩
   rw [Array.setIfInBounds_comm _ _ hji]
   exact hrest
def waits (md : Region.Mode) (ops : Array Oper) (k i : Nat) : Bool := match ops[k]? with
 | some o => o.after.any fun e => Region.binds md e && e.on == i
 | none => false
theorem anyT_take' {i : Nat} (k : Nat) {oi : Oper} {v : Value} {fuel : Nat} {listed : Array Bool} {a : Act} {w : World} (hi : ops[i]? = some oi)
  (hs : Region.noSelect ops = true) (hf : Region.free md ops listed i = true) (hr : (Region.ready md ops listed).contains i = true)
  (hk : (waits md ops k i && listed[k]? == some false && k != i) = true)
  (hQ : ∀ c a w, Q (.panic c) (a.put oi.dst v) w → Q (.panic c) a w) (hy : YieldsIf P ops S oi v a) (hS : S w)
  (h : anyT P md ops Q S fuel (listed.setIfInBounds i true) (a.put oi.dst v) w) : anyT P md ops Q S (fuel + 1) listed a w := by
 simp only [Bool.and_eq_true, bne_iff_ne, beq_iff_eq] at hk
 obtain ⟨⟨h1, h2⟩, h3⟩ := hk
 unfold waits at h1
 cases hok : ops[k]? with
 | none => rw [hok] at h1; cases h1
 | some ok =>
  rw [hok] at h1
  obtain ⟨e, he, hb⟩ := Array.any_eq_true'.1 h1
  simp only [Bool.and_eq_true, beq_iff_eq] at hb
  exact anyT_first hi hok ⟨e, he, hb.1, hb.2⟩ (Region.noSelect_spec hs) hQ fuel listed a w (Region.free_spec hi hf) (by simpa using hr) h2 h3 hy hS h
def waited (md : Region.Mode) (ops : Array Oper) (listed : Array Bool) (i : Nat) : Bool := (List.range ops.size).any fun k => waits md ops k i && listed[k]? == some false && k != i
theorem anyT_take {i : Nat} {oi : Oper} {v : Value} {fuel : Nat} {listed : Array Bool} {a : Act} {w : World} (hi : ops[i]? = some oi)
  (hs : Region.noSelect ops = true) (hf : Region.free md ops listed i = true) (hr : (Region.ready md ops listed).contains i = true)
  (hk : waited md ops listed i = true)
  (hQ : ∀ c a w, Q (.panic c) (a.put oi.dst v) w → Q (.panic c) a w) (hy : YieldsIf P ops S oi v a) (hS : S w)
  (h : anyT P md ops Q S fuel (listed.setIfInBounds i true) (a.put oi.dst v) w) : anyT P md ops Q S (fuel + 1) listed a w := by
 obtain ⟨k, _, hk'⟩ := List.any_eq_true.1 hk
 exact anyT_take' k hi hs hf hr hk' hQ hy hS h
theorem anyT_tk (i : Nat) {oi : Oper} {v : Value} {fuel : Nat} {listed : Array Bool} {a : Act} {w : World} (hi : ops[i]? = some oi)
  (h : anyT P md ops Q S fuel (listed.setIfInBounds i true) (a.put oi.dst v) w)
  (hs : Region.noSelect ops = true := by kernel_rfl) (hf : Region.free md ops listed i = true := by kernel_rfl) (hr : (Region.ready md ops listed).contains i = true := by kernel_rfl)
  (hk : waited md ops listed i = true := by kernel_rfl) (hQ : ∀ c a w, Q (.panic c) (a.put oi.dst v) w → Q (.panic c) a w := by exact fun _ _ _ h => h)
  (hy : YieldsIf P ops S oi v a := by exact Or.inl ⟨by rfl, fun w' hSw => by (try dsimp only at hSw); go_split_ands; go_simp; (try with_reducible rfl)⟩) (hS : S w := by assumption) : anyT P md ops Q S (fuel + 1) listed a w :=
 anyT_take hi hs hf hr hk hQ hy hS h
theorem anyT_step {i : Nat} {o : Oper} {fuel : Nat} {listed : Array Bool} {a : Act} {w : World} (hr : Region.ready md ops listed = [i]) (ho : ops[i]? = some o)
  (h : ∀ K' : Act → World → Prop, (∀ a w, (allDone (listed.setIfInBounds i true) = true ∨ S w) ∧ ((allDone (listed.setIfInBounds i true) = true ∨ S w) → anyT P md ops Q S fuel (listed.setIfInBounds i true) a w) → K' a w) →
   if Region.wanted o (yielded ops a.tmps) = true then Oper.wp P o a w K' Q else K' (a.put o.dst undef) w) : anyT P md ops Q S (fuel + 1) listed a w := by
 refine ⟨fun h0 => (by rw [hr] at h0; cases h0), fun j hj => ?_⟩
 rw [hr] at hj
 obtain rfl : j = i := by simpa using hj
 have h1 := h _ (fun a w h => (⟨h.1, h.2 h.1⟩ : (allDone (listed.setIfInBounds j true) = true ∨ S w) ∧ anyT P md ops Q S fuel (listed.setIfInBounds j true) a w))
 unfold wpOp
 rw [ho]
 simp only
 split
 ·rename_i hw; rw [if_pos hw] at h1; exact .inl h1
 ·rename_i hw; rw [if_neg hw] at h1; exact h1
theorem anyT_sp (i : Nat) {o : Oper} {fuel : Nat} {listed : Array Bool} {a : Act} {w : World} (ho : ops[i]? = some o)
  (h : ∀ K' : Act → World → Prop, (∀ a w, (allDone (listed.setIfInBounds i true) = true ∨ S w) ∧ ((allDone (listed.setIfInBounds i true) = true ∨ S w) → anyT P md ops Q S fuel (listed.setIfInBounds i true) a w) → K' a w) →
   if Region.wanted o (yielded ops a.tmps) = true then Oper.wp P o a w K' Q else K' (a.put o.dst undef) w) (hr : Region.ready md ops listed = [i] := by kernel_rfl) : anyT P md ops Q S (fuel + 1) listed a w := anyT_step hr ho h
theorem anyT_done {listed : Array Bool} {a : Act} {w : World} (hr : Region.ready md ops listed = []) (h : Q .normal a w) (fuel : Nat) : anyT P md ops Q S fuel listed a w := by
 cases fuel with
 | zero => exact ⟨hr, h⟩
 | succ n => exact ⟨fun _ => h, fun i hi => (by rw [hr] at hi; cases hi)⟩
end held
theorem round_region {id l : Nat} {ops : Array Oper} {Q : Exit → Act → World → Prop} {a : Act} {w : World} (S : World → Prop) (hm : P.follows .mixedOrders = true) (hnd : noDefer ops = true) (hQ : ∀ a w, ¬ Q .outgrown a w)
  (hS : S w.drew) (h : S w.drew → anyT P .any ops Q S ops.size (Array.replicate ops.size false) a w.drew) : (Code.region id ops true).wpIn (Fence.wide.inRound l) n P Q a w :=
 wpIn_region_any hm (round_any (noDefer_spec hnd) hQ _ _ _ _ (any_of_T _ _ _ _ (h hS)))
theorem plain_region {id : Nat} {ops : Array Oper} {Q : Exit → Act → World → Prop} {a : Act} {w : World} (S : World → Prop) (hm : P.follows .mixedOrders = true)
  (hS : S w.drew) (h : S w.drew → anyT P .any ops Q S ops.size (Array.replicate ops.size false) a w.drew) : (Code.region id ops true).wp P Q a w :=
 wp_region_any hm (any_of_T _ _ _ _ (h hS))
end Go.Proofs.YtaglfmlgbcmakaaGreatDoor

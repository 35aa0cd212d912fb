/-
  word.Common; paradigm: stem, Stem, equal.
  paradigm: endings, Endings.
  paradigm: labels, Same, Classes.
-/
import Derived.Test.YtlgliddhideflaaGreatDoorG60
import Derived.Test.YtlgliddhideflaaGreatDoorG40
import Derived.Test.YtlgliddhideflaaGreatDoorG16
set_option linter.all false
set_option maxRecDepth 100000
set_option maxHeartbeats 4000000
namespace Go.Proofs.YtlgliddhideflaaGreatDoor
open Go.RowKit Go.Shelf
def RetCommon (w : World) (k : Nat) (e : Ending) (w' : World) : Prop := (∃ m : Int, e = .returned (.tuple #[.int .i64 k, .int .i64 m])) ∧ Below w.heap.size w w'
theorem common_c (A A' : Option Addr) (n n' c c' : Nat) (xs ys : List Snd) (w : World) (hx : IsWord w A n c xs) (hy : IsWord w A' n' c' ys) :
  Calls Tryz.prog 151 #[.slice A n c, .slice A' n' c'] w (RetCommon w (cpl xs ys)) := by
 have hm := hx.max
 have hm' := hy.max
 have HX := hI hx; clear hx
 have HY := hI hy; clear hy
 obtain ⟨m, hm0⟩ : ∃ m : Nat, m = min n n' := ⟨_, rfl⟩
 have hmin : min (n : Int) (n' : Int) = (m : Int) := by omega
 have hmn : m ≤ n ∧ m ≤ n' := by omega
 have HMM : Hid (m = n ∨ m = n') := by show _ ∨ _; omega
 clear hm0
 go_enter Tryz.func151, Tryz.ntmps151
 go_wp2_with fail
 clear hmin
 go_loopw [6] (fun vi wr => ∃ k : Nat, vi = .int .i64 k ∧ k ≤ m ∧ Hid (∀ j, j < k → xs[j]? = ys[j]?) ∧ Below w.heap.size w wr) (fun vi _ => m - (intOf vi).toNat)
 case atStart => exact ⟨0, rfl, Nat.zero_le _, fun j hj => by omega, Below.refl _ _⟩
 case round =>
  obtain ⟨k, rfl, hk, hall, hB⟩ := hrel
  by_cases hgo : k < m ∧ xs[k]? = ys[k]?
  ·obtain ⟨hlt, heq⟩ := hgo
   have hk1 : (k : Int) < (m : Int) := by omega
   obtain ⟨b, off, p, q, rfl, hb, hxk, hc0, hc1⟩ := (HX.out.below hB rr).at_ (show k < n by omega)
   obtain ⟨b', off', p', q', rfl, hb', hyk, hc0', hc1'⟩ := (HY.out.below hB rr).at_ (show k < n' by omega)
   rw [hxk, hyk] at heq
   obtain ⟨rfl, rfl⟩ : p = p' ∧ q = q' := by simpa using heq
   have HN : Hid (∀ j, j < k + 1 → xs[j]? = ys[j]?) := fun j hj => by
    rcases Nat.lt_or_ge j k with h | h
    ·exact hall.out j h
    ·obtain rfl : j = k := by omega
     rw [hxk, hyk]
   clear hxk hyk heq hall
   have hk2 : (k : Int) < (n : Int) := by omega
   have hk3 : (k : Int) < (n' : Int) := by omega
   have he : (p == p && q == q) = true := by simp
   go_wp2_with fail
   go_quiet (fail)
   go_wp2
   go_roundw
   case rel => exact ⟨k + 1, by go_num, by omega, HN.out, bel⟩
   case measure => simp [intOf]; omega
  ·have HC : Hid (cpl xs ys = k) := by
    refine cpl_eq xs ys k hall.out (by rw [HX.out.len]; omega) (by rw [HY.out.len]; omega) ?_
    by_cases hlt : k < m
    ·right; right; exact fun h => hgo ⟨hlt, h⟩
    ·rw [HX.out.len, HY.out.len]
     rcases HMM.out with h | h <;> omega
   by_cases hlt : k < m
   ·have hk1 : (k : Int) < (m : Int) := by omega
    have hk2 : (k : Int) < (n : Int) := by omega
    have hk3 : (k : Int) < (n' : Int) := by omega
    obtain ⟨b, off, p, q, hA, hb, hxk, hc0, hc1⟩ := (HX.out.below hB rr).at_ (show k < n by omega)
    obtain ⟨b', off', p', q', hA', hb', hyk, hc0', hc1'⟩ := (HY.out.below hB rr).at_ (show k < n' by omega)
    subst hA hA'
    have hne : ¬ (p = p' ∧ q = q') := fun e => hgo ⟨hlt, by rw [hxk, hyk, e.1, e.2]⟩
    clear hgo hxk hyk
    go_wp2_with fail
    by_cases e1 : p = p'
    ·subst e1
     have e2 : q ≠ q' := fun e => hne ⟨rfl, e⟩
     have he1 : (q == q') = false := by simpa using e2
     have he2 : (q != q') = true := by simp only [bne, he1]; rfl
     clear e2 hne
     go_quiet (fail)
     go_wp2_with fail
     go_loopw [8] (fun vi wr => ∃ j : Nat, vi = .int .i64 j ∧ k + j ≤ m ∧ Below w.heap.size w wr) (fun vi _ => m - (intOf vi).toNat)
     case atStart => exact ⟨0, rfl, by omega, bel⟩
     case round =>
      obtain ⟨j, rfl, hj, hB⟩ := hrel
      have hw1 : IntKind.i64.wrap ((k : Int) + (j : Int)) = (k : Int) + (j : Int) := IntWalk.i64_in _ (by omega)
      by_cases hltj : k + j < m
      ·have hj1 : (k : Int) + (j : Int) < (m : Int) := by omega
       obtain ⟨i1, hi1⟩ : ∃ i1 : Nat, i1 = n - 1 - j := ⟨_, rfl⟩
       obtain ⟨i2, hi2⟩ : ∃ i2 : Nat, i2 = n' - 1 - j := ⟨_, rfl⟩
       have hw2 : IntKind.i64.wrap ((n : Int) - 1) = (n : Int) - 1 := IntWalk.i64_in _ (by omega)
       have hw3 : IntKind.i64.wrap ((n : Int) - 1 - (j : Int)) = (i1 : Int) := by rw [IntWalk.i64_in _ (by omega)]; omega
       have hw4 : IntKind.i64.wrap ((n' : Int) - 1) = (n' : Int) - 1 := IntWalk.i64_in _ (by omega)
       have hw5 : IntKind.i64.wrap ((n' : Int) - 1 - (j : Int)) = (i2 : Int) := by rw [IntWalk.i64_in _ (by omega)]; omega
       have hl1 : (i1 : Int) < (n : Int) := by omega
       have hl2 : (i2 : Int) < (n' : Int) := by omega
       obtain ⟨b2, off2, p2, q2, hA2, hb2, _, hd0, hd1⟩ := (HX.out.below hB rr).at_ (show i1 < n by omega)
       obtain ⟨b3, off3, p3, q3, hA3, hb3, _, hd2, hd3⟩ := (HY.out.below hB rr).at_ (show i2 < n' by omega)
       obtain ⟨rfl, rfl⟩ : b = b2 ∧ off = off2 := (by simpa using hA2); obtain ⟨rfl, rfl⟩ : b' = b3 ∧ off' = off3 := (by simpa using hA3)
       clear hi1 hi2
       go_wp2_with fail
       by_cases e1 : p2 = p3
       ·subst e1
        by_cases e2 : q2 = q3
        ·subst e2
         go_quiet (fail)
         go_wp2
         go_roundw
         case rel => exact ⟨j + 1, by go_num, by omega, bel⟩
         case measure => simp [intOf]; omega
        ·have he1 : (q2 == q3) = false := by simpa using e2
         have he2 : (q2 != q3) = true := by simp only [bne, he1]; rfl
         clear e2
         go_quiet (fail)
         go_wp2
         go_ret2
         exact ⟨⟨_, by rw [HC.out]; rfl⟩, bel⟩
       ·have he1 : (p2 == p3) = false := by simpa using e1
        have he2 : (p2 != p3) = true := by simp only [bne, he1]; rfl
        clear e1
        go_quiet (fail)
        go_wp2
        go_ret2
        exact ⟨⟨_, by rw [HC.out]; rfl⟩, bel⟩
      ·have hj1 : decide ((k : Int) + (j : Int) < (m : Int)) = false := decide_eq_false (by omega)
       go_wp2_with fail
       go_quiet (fail)
       go_wp2
       go_ret2
       exact ⟨⟨_, by rw [HC.out]; rfl⟩, bel⟩
    ·have he1 : (p == p') = false := by simpa using e1
     have he2 : (p != p') = true := by simp only [bne, he1]; rfl
     clear e1 hne
     go_quiet (fail)
     go_wp2_with fail
     go_loopw [8] (fun vi wr => ∃ j : Nat, vi = .int .i64 j ∧ k + j ≤ m ∧ Below w.heap.size w wr) (fun vi _ => m - (intOf vi).toNat)
     case atStart => exact ⟨0, rfl, by omega, bel⟩
     case round =>
      obtain ⟨j, rfl, hj, hB⟩ := hrel
      have hw1 : IntKind.i64.wrap ((k : Int) + (j : Int)) = (k : Int) + (j : Int) := IntWalk.i64_in _ (by omega)
      by_cases hltj : k + j < m
      ·have hj1 : (k : Int) + (j : Int) < (m : Int) := by omega
       obtain ⟨i1, hi1⟩ : ∃ i1 : Nat, i1 = n - 1 - j := ⟨_, rfl⟩
       obtain ⟨i2, hi2⟩ : ∃ i2 : Nat, i2 = n' - 1 - j := ⟨_, rfl⟩
       have hw2 : IntKind.i64.wrap ((n : Int) - 1) = (n : Int) - 1 := IntWalk.i64_in _ (by omega)
       have hw3 : IntKind.i64.wrap ((n : Int) - 1 - (j : Int)) = (i1 : Int) := by rw [IntWalk.i64_in _ (by omega)]; omega
       have hw4 : IntKind.i64.wrap ((n' : Int) - 1) = (n' : Int) - 1 := IntWalk.i64_in _ (by omega)
       have hw5 : IntKind.i64.wrap ((n' : Int) - 1 - (j : Int)) = (i2 : Int) := by rw [IntWalk.i64_in _ (by omega)]; omega
       have hl1 : (i1 : Int) < (n : Int) := by omega
       have hl2 : (i2 : Int) < (n' : Int) := by omega
       obtain ⟨b2, off2, p2, q2, hA2, hb2, _, hd0, hd1⟩ := (HX.out.below hB rr).at_ (show i1 < n by omega)
       obtain ⟨b3, off3, p3, q3, hA3, hb3, _, hd2, hd3⟩ := (HY.out.below hB rr).at_ (show i2 < n' by omega)
       obtain ⟨rfl, rfl⟩ : b = b2 ∧ off = off2 := (by simpa using hA2); obtain ⟨rfl, rfl⟩ : b' = b3 ∧ off' = off3 := (by simpa using hA3)
       clear hi1 hi2
       go_wp2_with fail
       by_cases e1 : p2 = p3
       ·subst e1
        by_cases e2 : q2 = q3
        ·subst e2
         go_quiet (fail)
         go_wp2
         go_roundw
         case rel => exact ⟨j + 1, by go_num, by omega, bel⟩
         case measure => simp [intOf]; omega
        ·have he1 : (q2 == q3) = false := by simpa using e2
         have he2 : (q2 != q3) = true := by simp only [bne, he1]; rfl
         clear e2
         go_quiet (fail)
         go_wp2
         go_ret2
         exact ⟨⟨_, by rw [HC.out]; rfl⟩, bel⟩
       ·have he1 : (p2 == p3) = false := by simpa using e1
        have he2 : (p2 != p3) = true := by simp only [bne, he1]; rfl
        clear e1
        go_quiet (fail)
        go_wp2
        go_ret2
        exact ⟨⟨_, by rw [HC.out]; rfl⟩, bel⟩
      ·have hj1 : decide ((k : Int) + (j : Int) < (m : Int)) = false := decide_eq_false (by omega)
       go_wp2_with fail
       go_quiet (fail)
       go_wp2
       go_ret2
       exact ⟨⟨_, by rw [HC.out]; rfl⟩, bel⟩
   ·have hk1 : ¬ ((k : Int) < (m : Int)) := by omega
    clear hgo
    go_wp2_with fail
    go_quiet (fail)
    go_wp2_with fail
    go_loopw [8] (fun vi wr => ∃ j : Nat, vi = .int .i64 j ∧ k + j ≤ m ∧ Below w.heap.size w wr) (fun vi _ => m - (intOf vi).toNat)
    case atStart => exact ⟨0, rfl, by omega, bel⟩
    case round =>
     obtain ⟨j, rfl, hj, hB⟩ := hrel
     have hw1 : IntKind.i64.wrap ((k : Int) + (j : Int)) = (k : Int) + (j : Int) := IntWalk.i64_in _ (by omega)
     by_cases hltj : k + j < m
     ·have hj1 : (k : Int) + (j : Int) < (m : Int) := by omega
      obtain ⟨i1, hi1⟩ : ∃ i1 : Nat, i1 = n - 1 - j := ⟨_, rfl⟩
      obtain ⟨i2, hi2⟩ : ∃ i2 : Nat, i2 = n' - 1 - j := ⟨_, rfl⟩
      have hw2 : IntKind.i64.wrap ((n : Int) - 1) = (n : Int) - 1 := IntWalk.i64_in _ (by omega)
      have hw3 : IntKind.i64.wrap ((n : Int) - 1 - (j : Int)) = (i1 : Int) := by rw [IntWalk.i64_in _ (by omega)]; omega
      have hw4 : IntKind.i64.wrap ((n' : Int) - 1) = (n' : Int) - 1 := IntWalk.i64_in _ (by omega)
      have hw5 : IntKind.i64.wrap ((n' : Int) - 1 - (j : Int)) = (i2 : Int) := by rw [IntWalk.i64_in _ (by omega)]; omega
      have hl1 : (i1 : Int) < (n : Int) := by omega
      have hl2 : (i2 : Int) < (n' : Int) := by omega
      obtain ⟨b2, off2, p2, q2, hA2, hb2, _, hd0, hd1⟩ := (HX.out.below hB rr).at_ (show i1 < n by omega)
      obtain ⟨b3, off3, p3, q3, hA3, hb3, _, hd2, hd3⟩ := (HY.out.below hB rr).at_ (show i2 < n' by omega)
      subst hA2 hA3
      clear hi1 hi2
      go_wp2_with fail
      by_cases e1 : p2 = p3
      ·subst e1
       by_cases e2 : q2 = q3
       ·subst e2
        go_quiet (fail)
        go_wp2
        go_roundw
        case rel => exact ⟨j + 1, by go_num, by omega, bel⟩
        case measure => simp [intOf]; omega
       ·have he1 : (q2 == q3) = false := by simpa using e2
        have he2 : (q2 != q3) = true := by simp only [bne, he1]; rfl
        clear e2
        go_quiet (fail)
        go_wp2
        go_ret2
        exact ⟨⟨_, by rw [HC.out]; rfl⟩, bel⟩
      ·have he1 : (p2 == p3) = false := by simpa using e1
       have he2 : (p2 != p3) = true := by simp only [bne, he1]; rfl
       clear e1
       go_quiet (fail)
       go_wp2
       go_ret2
       exact ⟨⟨_, by rw [HC.out]; rfl⟩, bel⟩
     ·have hj1 : decide ((k : Int) + (j : Int) < (m : Int)) = false := decide_eq_false (by omega)
      go_wp2_with fail
      go_quiet (fail)
      go_wp2
      go_ret2
      exact ⟨⟨_, by rw [HC.out]; rfl⟩, bel⟩
def stemI (s : Option (Nat × List Snd)) : Int := match s with | none => -1 | some s => s.1
theorem stemN_eq (l : List Frm) : stemN l = stemI (stemK l) := rfl
def StemAt (w : World) (s : Option (Nat × List Snd)) (v : Value) : Prop := (∃ A n c, v = .slice A n c) ∧ ∀ m f, s = some (m, f) → m ≤ f.length ∧ ∃ A n c, v = .slice A n c ∧ IsWord w A n c f
theorem StemAt.below {w w' : World} {s : Option (Nat × List Snd)} {v : Value} (h : StemAt w s v) (hb : Below w.heap.size w w') : StemAt w' s v :=
 ⟨h.1, fun m f e => by obtain ⟨h1, A, n, c, h2, h3⟩ := h.2 m f e; exact ⟨h1, A, n, c, h2, h3.below hb rr⟩⟩
def RetStem (w : World) (l : List Frm) (e : Ending) (w' : World) : Prop := (∃ v, e = .returned (.tuple #[.int .i64 (stemN l), v]) ∧ StemAt w' (stemK l) v) ∧ Below w.heap.size w w'
theorem stem_drop {l : List Frm} {k : Nat} {x : Frm} {s : Option (Nat × List Snd)} (h : l[k]? = some x) : stemGo (l.drop k) s = stemGo (l.drop (k + 1)) (if x.1 then (match s with | none => some (x.2.length, x.2) | some (n, f) => some (min n (cpl f x.2), f)) else s) := by
 obtain ⟨hk, hk'⟩ := List.getElem?_eq_some_iff.1 h
 rw [List.drop_eq_getElem_cons hk, hk']; rfl
theorem pStemL_c (A : Option Addr) (n c : Nat) (l : List Frm) (w : World) (hx : IsForms w A n c l) :
  Calls Tryz.prog 89 #[.slice A n c] w (RetStem w l) := by
 have hm := hx.max
 have HX := hI hx; clear hx
 go_enter Tryz.func89, Tryz.ntmps89
 go_wp2_with fail
 go_loopw [4, 5, 12] (fun vn vf vi wr => ∃ (k : Nat) (s : Option (Nat × List Snd)), vi = .int .i64 k ∧ k ≤ n ∧ vn = .int .i64 (stemI s) ∧ Hid (StemAt wr s vf) ∧ Hid (stemK l = stemGo (l.drop k) s) ∧ Below w.heap.size w wr) (fun _ _ vi _ => n - (intOf vi).toNat)
 case atStart => exact ⟨0, none, rfl, Nat.zero_le _, rfl, ⟨⟨none, 0, 0, rfl⟩, fun m f h => by cases h⟩, rfl, Below.refl _ _⟩
 case round =>
  obtain ⟨k, s, rfl, hk, rfl, hat, hgo, hB⟩ := hrel
  have hBs := hB.size
  by_cases hlt : k < n
  ·have hk1 : (k : Int) < (n : Int) := by omega
   obtain ⟨b, off, h, A1, n1, c1, ws, rfl, hb, hc0, hc1, hlk, hws⟩ := (HX.out.below hB rr).at_ hlt
   have hm1 := hws.max
   have HW := hI hws; clear hws
   have HD := hI (stem_drop (s := s) hlk); clear hlk
   have hB1 : Below w.heap.size w (wr.alloc (.cells #[.bool h, .slice A1 n1 c1] 57)) := hB.alloc hBs _
   have hb1 : Below wr.heap.size wr (wr.alloc (.cells #[.bool h, .slice A1 n1 c1] 57)) := bel
   cases h with
   | false =>
    have HN : Hid (stemK l = stemGo (l.drop (k + 1)) s) := hgo.out.trans HD.out
    have HAT := hI (hat.out.below hb1)
    clear hat hb1
    go_wp2
    go_roundw
    case rel => exact ⟨k + 1, s, by go_num, by omega, rfl, HAT.out, HN.out, hB1⟩
    case measure => simp [intOf]; omega
   | true =>
    cases s with
    | none =>
     have HN : Hid (stemK l = stemGo (l.drop (k + 1)) (some (ws.length, ws))) := hgo.out.trans HD.out
     have HL : Hid (ws.length = n1) := HW.out.len
     have HAT : Hid (StemAt (wr.alloc (.cells #[.bool true, .slice A1 n1 c1] 57)) (some (ws.length, ws)) (.slice A1 n1 c1)) := ⟨⟨_, _, _, rfl⟩, fun m f e => by
      obtain ⟨rfl, rfl⟩ : ws.length = m ∧ ws = f := by simpa using e
      exact ⟨rr, A1, n1, c1, rfl, HW.out.below hb1 rr⟩⟩
     clear hat hb1
     unfold stemI
     go_wp2_with fail
     go_quiet (fail)
     go_wp2
     go_roundw
     case rel => exact ⟨k + 1, some (ws.length, ws), by go_num, by omega, by show _ = Value.int .i64 ((ws.length : Nat) : Int); rw [HL.out], HAT.out.below ((Below.refl _ _).drewN _), HN.out, hB1.drewN _⟩
     case measure => simp [intOf]; omega
    | some s =>
     obtain ⟨m, f⟩ := s
     obtain ⟨hmf, A2, n2, c2, rfl, hwf⟩ := hat.out.2 m f rfl
     have hm2 := hwf.max
     have hlf := hwf.len
     have HF := hI (hwf.below hb1 rr); clear hwf
     have HW1 := hI (HW.out.below hb1 rr)
     have HN : Hid (stemK l = stemGo (l.drop (k + 1)) (some (min m (cpl f ws), f))) := hgo.out.trans HD.out
     have hneg : ¬ ((m : Int) < 0) := by omega
     have HCL := hI (cpl_le f ws).1
     clear hat hb1
     show Code.wp _ _ _ _ _
     unfold stemI
     go_wp2_with fail
     clear hc0 hc1
     generalize (wr.alloc (.cells #[.bool true, .slice A1 n1 c1] 57)) = V1 at *
     refine (common_c A2 A1 n2 n1 c2 c1 f ws V1 HF.out HW1.out).mono ?_
     obtain ⟨z, hz⟩ : ∃ z, z = cpl f ws := ⟨_, rfl⟩
     rw [← hz]
     have HZ := hI hz; clear hz
     rintro e w3 ⟨⟨y, rfl⟩, hb3⟩
     have hB3 := hB1.trans (hb3.mono hB1.size)
     have HF3 := hI (HF.out.below hb3 rr)
     have hzm : z ≤ f.length := by rw [HZ.out]; exact HCL.out
     clear hb3
     have hmin : min (m : Int) (z : Int) = ((min m z : Nat) : Int) := by omega
     go_wp2
     go_roundw
     case rel => exact ⟨k + 1, some (min m (cpl f ws), f), by go_num, by omega, by show _ = Value.int .i64 ((min m (cpl f ws) : Nat) : Int); rw [← HZ.out], ⟨⟨_, _, _, rfl⟩, fun m' f' e => by
      obtain ⟨rfl, rfl⟩ : min m (cpl f ws) = m' ∧ f = f' := by simpa using e
      exact ⟨by omega, A2, n2, c2, rfl, HF3.out⟩⟩, HN.out, hB3⟩
     case measure => simp [intOf]; omega
  ·have hk1 : ¬ ((k : Int) < (n : Int)) := by omega
   have HN : Hid (stemK l = s) := by show _ = _; rw [hgo.out, List.drop_eq_nil_of_le (by rw [HX.out.len]; omega)]; rfl
   go_wp2
   go_ret2
   exact ⟨⟨_, by rw [stemN_eq, HN.out]; rfl, by rw [HN.out]; exact hat.out⟩, hB⟩
theorem pStem_c (A : Option Addr) (n c : Nat) (T : List (List Frm)) (r : Int) (w : World) (hx : IsPar w A n c T) (hr : -9223372036854775808 ≤ r ∧ r ≤ 9223372036854775807) :
  Calls Tryz.prog 31 #[.slice A n c, .int .i64 r] w (RetWE w (pStemM T r)) := by
 have HX := hI hx; clear hx
 go_enter Tryz.func31, Tryz.ntmps31
 go_wp2_with fail
 refine (pLine_c A n c T r w HX.out hr).mono ?_
 rintro e w1 ⟨⟨h0, rfl⟩ | ⟨h0, A1, n1, c1, rfl, hf⟩, hB1⟩
 ·obtain ⟨er, her⟩ : ∃ er, er = lineE T r := ⟨_, rfl⟩
  rw [← her] at h0 ⊢
  have h1 : (er != 0) = true := by simpa using h0
  have HM : Hid (pStemM T r = (er, [])) := by show _ = _; unfold pStemM; rw [← her, if_pos h0]
  clear h0 her
  go_wp2
  go_ret2
  exact ⟨none, 0, 0, by rw [HM.out]; rfl, by rw [HM.out]; exact Cells.nil _ _, hB1, fun _ h => by cases h⟩
 have HM : Hid (pStemM T r = match stemM (lineR T r) with | none => (5, []) | some w => (0, w)) := by show _ = _; unfold pStemM; rw [if_neg (by simpa using h0)]; cases stemM (lineR T r) <;> rfl
 have HPE : Hid (parE T = 0) := by
  show _ = _
  unfold lineE at h0
  by_cases hp : parE T = 0
  ·exact hp
  ·rw [if_pos hp] at h0; exact absurd h0 hp
 have HRNG : Hid (0 ≤ r ∧ r < (T.length : Int)) := by
  unfold lineE at h0
  rw [if_neg (by simp [HPE.out])] at h0
  by_cases hp : r < 0 ∨ (T.length : Int) ≤ r
  ·rw [if_pos hp] at h0; exact absurd h0 (by decide)
  ·show _ ∧ _; omega
 clear h0
 have HF := hI hf; clear hf
 go_wp2_with fail
 refine (pStemL_c A1 n1 c1 (lineR T r) w1 HF.out).mono ?_
 rintro e w2 ⟨⟨v, rfl, hat⟩, hb2⟩
 have hB2 := hB1.trans (hb2.mono hB1.size)
 clear hb2
 cases hs : stemK (lineR T r) with
 | none =>
  have HM' : Hid (pStemM T r = (5, [])) := by show _ = _; rw [HM.out]; unfold stemM; rw [hs]; rfl
  rw [show stemN (lineR T r) = -1 by unfold stemN; rw [hs]]
  clear hs hat
  go_wp2
  go_ret2
  exact ⟨none, 0, 0, by rw [HM'.out]; rfl, by rw [HM'.out]; exact Cells.nil _ _, hB2, fun _ h => by cases h⟩
 | some s =>
  obtain ⟨m, f⟩ := s
  have HM' : Hid (pStemM T r = (0, f.take m)) := by show _ = _; rw [HM.out]; unfold stemM; rw [hs]; rfl
  rw [show stemN (lineR T r) = (m : Int) by unfold stemN; rw [hs]]
  obtain ⟨hmf, A2, n2, c2, rfl, hwf⟩ := hat.2 m f hs
  have hlf := hwf.len
  have hmx := hwf.max
  have hnc : n2 ≤ c2 := hwf.2.1
  have HWF := hI hwf; clear hwf hat
  have hneg : ¬ ((m : Int) < 0) := by omega
  have hm0 : (0 : Int) ≤ (m : Int) := by omega
  have hmc : (m : Int) ≤ (c2 : Int) := by omega
  have hm32 : m ≤ 32 := by
   have hmem : (lineR T r) ∈ T := by
    unfold lineR
    have h1 := HRNG.out
    rw [List.getD_eq_getElem?_getD, List.getElem?_eq_getElem (by omega)]
    exact List.getElem_mem _
   obtain ⟨x, hx, hx1, hx2⟩ := stemK_first hs
   have h2 := words_all HPE.out hmem hx
   rw [hx2] at h2
   have := wcheck_len h2
   omega
  clear hs
  go_wp2_with fail
  refine (clone_c A2 m c2 (f.take m) w2 (HWF.out.take (by omega)) (by omega)).mono ?_
  rintro e w3 ⟨A3, n3, c3, rfl, hw3, hb3, hf3⟩
  have HW3 := hI hw3; clear hw3
  have HF3 : Hid (∀ ad, A3 = some ad → w.heap.size ≤ ad.block) := fun ad h => Nat.le_trans hB2.size (hf3 ad h)
  clear hf3
  go_wp2
  go_ret2
  exact ⟨A3, n3, c3, by rw [HM'.out]; rfl, by rw [HM'.out]; exact HW3.out, hB2.trans (hb3.mono hB2.size), HF3.out⟩
theorem pEqual_c (a b : FormR) (w : World) (ha : IsWord w a.p.1 a.p.2.1 a.p.2.2.1 a.p.2.2.2) (hb : IsWord w b.p.1 b.p.2.1 b.p.2.2.1 b.p.2.2.2) :
  Calls Tryz.prog 92 #[formV a, formV b] w fun e w' => e = .returned (.bool (decide (a.data = b.data))) ∧ Below w.heap.size w w' := by
 obtain ⟨h, A, n, c, ws⟩ := a
 obtain ⟨h', A', n', c', ws'⟩ := b
 have HA : Hid (IsWord w A n c ws) := ha
 have HB : Hid (IsWord w A' n' c' ws') := hb
 clear ha hb
 show Calls Tryz.prog 92 #[.agg #[.bool h, .slice A n c], .agg #[.bool h', .slice A' n' c']] w fun e w' => e = .returned (.bool (decide ((h, ws) = (h', ws')))) ∧ Below w.heap.size w w'
 go_enter Tryz.func92, Tryz.ntmps92
 by_cases hh : h = h'
 ·subst hh
  have HD : Hid (decide ((h, ws) = (h, ws')) = decide (ws = ws')) := decide_eq_decide.2 (by simp)
  have he : (h == h) = true := by simp
  go_wp2_with fail
  have hb9 : Below w.heap.size w ((w.alloc (.cells #[.bool h, .slice A n c] 57)).alloc (.cells #[.bool h, .slice A' n' c'] 57)) := bel
  refine (wEqual_c A A' n n' c c' ws ws' _ (HA.out.below hb9 rr) (HB.out.below hb9 rr)).mono ?_
  rintro e w3 ⟨rfl, hb3⟩
  go_wp2
  go_ret
  exact ⟨by rw [HD.out]; rfl, hb9.trans (hb3.mono hb9.size)⟩
 ·have HD : Hid (decide ((h, ws) = (h', ws')) = false) := decide_eq_false (fun e => hh (congrArg Prod.fst e))
  have he : (h == h') = false := by simpa using hh
  go_wp2
  go_ret
  exact ⟨by rw [HD.out]; rfl, bel⟩
def formZ : FormR := ⟨false, (none, 0, 0, [])⟩
theorem form_info : (Tryz.prog.info? 57).map (fun i => (i.zero, i.size, i.bytes)) = some (some (.agg #[.bool false, .slice none 0 0]), 2, 32) := by kernel_rfl
theorem form_size (b : Bool) (A : Option Addr) (n c : Nat) : (Tryz.prog.info? 57).map (·.size) = some (#[Value.bool b, .slice A n c]).size := by
 show _ = some 2
 kernel_rfl
theorem made_forms (n : Nat) : madeCells #[Value.bool false, .slice none 0 0] (n * 2) = ((List.replicate n formZ).flatMap FormR.cells).toArray := by
 apply Array.ext
 ·simp [size_madeCells, flat_len FormR.cells 2 FormR.len]
 ·intro i h1 h2
  have hi : i < n * 2 := by simpa [size_madeCells] using h1
  have hz : (List.replicate n formZ)[i / 2]? = some formZ := by rw [List.getElem?_replicate, if_pos (by omega)]
  rcases Nat.mod_two_eq_zero_or_one i with h | h
  ·have h3 := flat_at FormR.cells 2 FormR.len _ (i / 2) formZ hz 0 (.bool false) rfl
   rw [show i / 2 * 2 + 0 = i by omega] at h3
   exact Eq.trans (by simp [madeCells, h]) ((List.getElem?_eq_some_iff.1 h3).2.symm.trans rfl)
  ·have h3 := flat_at FormR.cells 2 FormR.len _ (i / 2) formZ hz 1 (.slice none 0 0) rfl
   rw [show i / 2 * 2 + 1 = i by omega] at h3
   exact Eq.trans (by simp [madeCells, h]) ((List.getElem?_eq_some_iff.1 h3).2.symm.trans rfl)
theorem run_make_forms (n : Nat) (hn : n ≤ 4096) (w : World) : (Instr.makeSlice 62 (.int .i64 (n : Int)) (.int .i64 (n : Int))).run Tryz.prog w = .ok (.slice (some ⟨w.heap.size, 0, none⟩) n n) (w.alloc (.cells ((List.replicate n formZ).flatMap FormR.cells).toArray 57)) := by
 obtain ⟨i, hi, hzz⟩ := Option.map_eq_some_iff.1 form_info
 simp only [Prod.mk.injEq] at hzz
 obtain ⟨hz, hs, hb⟩ := hzz
 have hr := run_make (P := Tryz.prog) w 62 57 i _ Tryz.underlying62 hi hz .i64 .i64 n n (by omega) (Int.le_refl _) (by rw [hb]; omega) (by omega)
 rw [Int.toNat_natCast, hs] at hr
 rw [← made_forms]
 exact hr
section
variable {ops : Array Oper} {rest : List Oper} {op : Oper} {ac : Act} {w : World} {Q : Exit → Act → World → Prop}
theorem store_form_at (hgd : op.guard = none) (x y : Operand) (ho : op.op = .store 57 x y) {base g n c : Nat} {xs : List FormR} (hown : w.ownsRow base 57 2 (.slice (some ⟨g, 0, none⟩) n c) n (xs.flatMap FormR.cells)) {k : Nat} (hk : k < n) (s : FormR)
  (hx : ac.eval x = .pointer (some ⟨g, k * 2, none⟩)) (hy : ac.eval y = formV s)
  (h : wpList Tryz.prog ops Q rest (ac.put op.dst undef) (w.setCells g (k * 2) s.cells)) : wpList Tryz.prog ops Q (op :: rest) ac w := by
 refine wpList_store_mid hgd 57 x y ho g (k * 2) #[.bool s.h, .slice s.p.1 s.p.2.1 s.p.2.2.1] hx hy (own_thereL hown hk) (form_size _ _ _ _) (by simp [Value.oneCell']) h
end
structure EndsSt (B g n : Nat) (fs : List FormR) (w : World) : Prop where
 own : w.ownsRow B 57 2 (.slice (some ⟨g, 0, none⟩) n n) n (fs.flatMap FormR.cells)
 ww : ∀ f ∈ fs, IsWord w f.p.1 f.p.2.1 f.p.2.2.1 f.p.2.2.2 ∧ ∀ ad, f.p.1 = some ad → g < ad.block
theorem EndsSt.below {B g n : Nat} {fs : List FormR} {w w' : World} (h : EndsSt B g n fs w) (hb : Below w.heap.size w w') : EndsSt B g n fs w' :=
 ⟨own_heap h.own fun k e => hb.block k (h.own.lt k e).2, fun f hf => ⟨(h.ww f hf).1.below hb rr, (h.ww f hf).2⟩⟩
theorem EndsSt.set {B g n : Nat} {fs : List FormR} {w : World} (h : EndsSt B g n fs w) {k : Nat} (hk : k < n) (f : FormR) (hf : IsWord w f.p.1 f.p.2.1 f.p.2.2.1 f.p.2.2.2 ∧ ∀ ad, f.p.1 = some ad → g < ad.block) : EndsSt B g n (fs.set k f) (w.setCells g (k * 2) f.cells) := by
 refine ⟨own_set FormR.len h.own (by decide) hk f, fun x hx => ?_⟩
 have hk2 : Keep (fun j => j = g) w (w.setCells g (k * 2) f.cells) := keep_setCells (S := fun j => j = g) g rfl _ _ _ (Keep.refl _ _)
 have h2 : IsWord w x.p.1 x.p.2.1 x.p.2.2.1 x.p.2.2.2 ∧ ∀ ad, x.p.1 = some ad → g < ad.block := by
  rcases List.mem_or_eq_of_mem_set hx with h1 | h1
  ·exact h.ww x h1
  ·rw [h1]; exact hf
 exact ⟨h2.1.keep hk2 fun _ ad had e => by have := h2.2 ad had; omega, h2.2⟩
theorem set_part {α : Type} {d : List α} {z x : α} {n k : Nat} (hk : k < n) (hl : d.length = n) (hd : d[k]? = some x) : (d.take k ++ List.replicate (n - k) z).set k x = d.take (k + 1) ++ List.replicate (n - (k + 1)) z := by
 have ht : (d.take k).length = k := by rw [List.length_take]; omega
 rw [List.set_append_right _ _ (by omega), ht, Nat.sub_self, show n - k = (n - (k + 1)) + 1 by omega, List.replicate_succ, List.set_cons_zero, take_snoc' d k x hd, List.append_assoc]
 rfl
theorem same_part {α : Type} {d : List α} {z : α} {n k : Nat} (hk : k < n) (hd : d[k]? = some z) : d.take k ++ List.replicate (n - k) z = d.take (k + 1) ++ List.replicate (n - (k + 1)) z := by
 rw [show n - k = (n - (k + 1)) + 1 by omega, List.replicate_succ, take_snoc' d k z hd, List.append_assoc]
 rfl
theorem part_at {α : Type} {d : List α} {z : α} {n k : Nat} (hk : k < n) (hl : d.length = n) : (d.take k ++ List.replicate (n - k) z)[k]? = some z := by
 have ht : (d.take k).length = k := by rw [List.length_take]; omega
 rw [List.getElem?_append_right (by omega), ht, Nat.sub_self, List.getElem?_replicate, if_pos (by omega)]
def OwnForms (B : Nat) (w : World) (A : Option Addr) (n c : Nat) (l : List Frm) : Prop :=
 ∃ fs : List FormR, fs.map FormR.data = l ∧ w.ownsRow B 57 2 (.slice A n c) n (fs.flatMap FormR.cells) ∧ ∀ f ∈ fs, IsWord w f.p.1 f.p.2.1 f.p.2.2.1 f.p.2.2.2 ∧ ∀ ad, f.p.1 = some ad → B ≤ ad.block
theorem OwnForms.forms {B : Nat} {w : World} {A : Option Addr} {n c : Nat} {l : List Frm} (h : OwnForms B w A n c l) : IsForms w A n c l := by
 obtain ⟨fs, h1, h2, h3⟩ := h
 exact ⟨fs, h1, Recs.of_own h2 FormR.len (by decide), fun f hf => (h3 f hf).1⟩
def RetFms (w : World) (l : List Frm) (e : Ending) (w' : World) : Prop := ∃ A n c, e = .returned (.slice A n c) ∧ OwnForms w.heap.size w' A n c l ∧ Below w.heap.size w w'
theorem ends_len (l : List Frm) : (endsOf l).length = l.length := by simp [endsOf]
theorem ends_at {l : List Frm} {k : Nat} {h : Bool} {ws : List Snd} (hk : l[k]? = some (h, ws)) : (endsOf l)[k]? = some (if h then (true, ws.drop (stemN l).toNat) else (false, [])) := by
 unfold endsOf
 rw [List.getElem?_map, hk]; rfl
theorem pEnds_c (A : Option Addr) (n c : Nat) (l : List Frm) (w : World) (hx : IsForms w A n c l) (hn : n ≤ 4096) (hok : ∀ x ∈ l, x.2.length ≤ 4096) :
  Calls Tryz.prog 90 #[.slice A n c] w (RetFms w (endsOf l)) := by
 have hm := hx.max
 have HX := hI hx; clear hx
 have HOK := hI hok; clear hok
 go_enter Tryz.func90, Tryz.ntmps90
 go_wp2_with fail
 refine (pStemL_c A n c l w HX.out).mono ?_
 obtain ⟨z, hz⟩ : ∃ z, z = stemN l := ⟨_, rfl⟩
 rintro e w1 ⟨⟨v, rfl, hat⟩, hB1⟩
 rw [← hz]
 have HZ := hI hz; clear hz
 have HB1 := hI hB1
 clear hat hB1
 have hmk := fun w => run_make_forms n hn w
 go_wp2_with fail
 clear hmk
 have hown0 := World.ownsRow_lit (base := w1.heap.size) (size := 2) (e := 57) w1 ((List.replicate n formZ).flatMap FormR.cells).toArray n rr (by unfold maxLen; omega) (by simp [flat_len FormR.cells 2 FormR.len])
 have hb0 : Below w1.heap.size w1 (w1.alloc (.cells ((List.replicate n formZ).flatMap FormR.cells).toArray 57)) := bel
 generalize (w1.alloc (.cells ((List.replicate n formZ).flatMap FormR.cells).toArray 57)) = V0 at *
 obtain ⟨g, hg⟩ : ∃ g, g = w1.heap.size := ⟨_, rfl⟩
 rw [← hg] at hown0 ⊢
 have hg1 : w1.heap.size ≤ g := Nat.le_of_eq hg.symm
 have HG := hI hg
 clear hg
 have HST0 : Hid (EndsSt g g n (List.replicate n formZ) V0) := ⟨by rw [List.toList_toArray] at hown0; exact hown0, fun f hf => by
  obtain rfl := List.eq_of_mem_replicate hf
  exact ⟨Cells.nil _ _, fun ad h => by cases h⟩⟩
 have HV0 := hI hb0
 clear hown0 hb0
 have HEL : Hid ((endsOf l).length = n) := by show _ = _; rw [ends_len, HX.out.len]
 go_loopw [18] (fun vi wr => ∃ (k : Nat) (fs : List FormR), vi = .int .i64 k ∧ k ≤ n ∧ Hid (EndsSt g g n fs wr) ∧ Hid (fs.map FormR.data = (endsOf l).take k ++ List.replicate (n - k) (false, [])) ∧ Below w1.heap.size w1 wr) (fun vi _ => n - (intOf vi).toNat)
 case atStart => exact ⟨0, List.replicate n formZ, rfl, Nat.zero_le _, HST0.out, by simp [FormR.data, formZ, Part.word, Hid], HV0.out⟩
 case round =>
  obtain ⟨k, fs, rfl, hk, hst, hdat, hB⟩ := hrel
  have hBs := hB.size
  have hBB := HB1.out.trans (hB.mono HB1.out.size)
  by_cases hlt : k < n
  ·have hk1 : (k : Int) < (n : Int) := by omega
   obtain ⟨b, off, h, A1, n1, c1, ws, rfl, hb, hc0, hc1, hlk, hws⟩ := (HX.out.below hBB rr).at_ hlt
   have hm1 := hws.max
   have hn1c : n1 ≤ c1 := hws.2.1
   have HW := hI hws; clear hws
   have HE := hI (ends_at hlk)
   have hfl : fs.length = n := by have := congrArg List.length hdat.out; rw [List.length_map] at this; rw [this, List.length_append, List.length_take, List.length_replicate, HEL.out]; omega
   have hb1 : Below wr.heap.size wr (wr.alloc (.cells #[.bool h, .slice A1 n1 c1] 57)) := bel
   cases h with
   | false =>
    have HN : Hid (fs.map FormR.data = (endsOf l).take (k + 1) ++ List.replicate (n - (k + 1)) (false, [])) := by show _ = _; rw [hdat.out]; exact same_part hlt HE.out
    have HST := hI (hst.out.below hb1)
    have hB1 := hB.trans (hb1.mono hBs)
    clear hst hb1 hlk
    go_wp2
    go_roundw
    case rel => exact ⟨k + 1, fs, by go_num, by omega, HST.out, HN.out, hB1⟩
    case measure => simp [intOf]; omega
   | true =>
    have hmem := List.mem_of_getElem? hlk
    obtain ⟨m, f0, hsk⟩ : ∃ m f, stemK l = some (m, f) := by
     cases hs : stemK l with
     | none => exact absurd ((stemGo_none l none hs).2 _ hmem) (by simp)
     | some s => exact ⟨s.1, s.2, rfl⟩
    have hzm : z = (m : Int) := by rw [HZ.out]; unfold stemN; rw [hsk]
    have hmw : m ≤ ws.length := stemK_short hsk hmem rfl
    have h96 := HOK.out _ hmem
    have hwl := HW.out.len
    have h96' : ws.length ≤ 4096 := h96
    rw [show (stemN l).toNat = m by rw [← HZ.out, hzm]; rfl] at HE
    subst hzm
    clear hsk hlk hmem
    have hm0 : (0 : Int) ≤ (m : Int) := by omega
    have hmn : (m : Int) ≤ (n1 : Int) := by omega
    have hmc : m ≤ c1 := by omega
    have HW1 := hI (HW.out.below hb1 rr)
    have HST := hI (hst.out.below hb1)
    have hB1 := hB.trans (hb1.mono hBs)
    clear hst
    by_cases hcm : c1 = m
    ·subst hcm
     go_wp2_with fail
     clear hc0 hc1 hb1
     generalize (wr.alloc (.cells #[.bool true, .slice A1 n1 c1] 57)) = V1 at *
     have HCUT := HW1.out.drop (k := c1) (by omega)
     rw [if_pos rfl, Nat.sub_self, show n1 - c1 = 0 by omega] at HCUT
     refine (clone_c A1 0 0 (ws.drop c1) V1 HCUT (by omega)).mono ?_
     rintro e w3 ⟨A3, n3, c3, rfl, hw3, hb3, hf3⟩
     have HST3 := hI (HST.out.below hb3)
     have hB3 := hB1.trans (hb3.mono hB1.size)
     have hgV : g < V1.heap.size := (HST.out.own.lt g rfl).2
     have HN : Hid ((fs.set k ⟨true, (A3, n3, c3, ws.drop c1)⟩).map FormR.data = (endsOf l).take (k + 1) ++ List.replicate (n - (k + 1)) (false, [])) := by
      show _ = _
      rw [List.map_set, hdat.out]
      exact set_part hlt HEL.out HE.out
     have HST4 := hI (HST3.out.set hlt ⟨true, (A3, n3, c3, ws.drop c1)⟩ ⟨hw3, fun ad had => Nat.lt_of_lt_of_le hgV (hf3 ad had)⟩)
     have hB4 : Below w1.heap.size w1 (w3.setCells g (k * 2) (FormR.cells ⟨true, (A3, n3, c3, ws.drop c1)⟩)) := below_set hg1 _ _ _ hB3
     clear hw3 hf3 hb3
     go_wp2_with (refine store_form_at rfl (.tmp 33) (.tmp 32) rfl HST3.out.own hlt ⟨true, (A3, n3, c3, ws.drop c1)⟩ rfl rfl ?_)
     generalize (w3.setCells g (k * 2) (FormR.cells ⟨true, (A3, n3, c3, ws.drop c1)⟩)) = V4 at *
     go_roundw
     case rel => exact ⟨k + 1, _, by go_num, by omega, HST4.out, HN.out, hB4⟩
     case measure => simp [intOf]; omega
    ·go_wp2_with fail
     clear hc0 hc1 hb1
     generalize (wr.alloc (.cells #[.bool true, .slice A1 n1 c1] 57)) = V1 at *
     have HCUT := HW1.out.drop (k := m) (by omega)
     rw [if_neg hcm] at HCUT
     refine (clone_c (A1.map (·.add (m * 2))) (n1 - m) (c1 - m) (ws.drop m) V1 HCUT (by omega)).mono ?_
     rintro e w3 ⟨A3, n3, c3, rfl, hw3, hb3, hf3⟩
     have HST3 := hI (HST.out.below hb3)
     have hB3 := hB1.trans (hb3.mono hB1.size)
     have hgV : g < V1.heap.size := (HST.out.own.lt g rfl).2
     have HN : Hid ((fs.set k ⟨true, (A3, n3, c3, ws.drop m)⟩).map FormR.data = (endsOf l).take (k + 1) ++ List.replicate (n - (k + 1)) (false, [])) := by
      show _ = _
      rw [List.map_set, hdat.out]
      exact set_part hlt HEL.out HE.out
     have HST4 := hI (HST3.out.set hlt ⟨true, (A3, n3, c3, ws.drop m)⟩ ⟨hw3, fun ad had => Nat.lt_of_lt_of_le hgV (hf3 ad had)⟩)
     have hB4 : Below w1.heap.size w1 (w3.setCells g (k * 2) (FormR.cells ⟨true, (A3, n3, c3, ws.drop m)⟩)) := below_set hg1 _ _ _ hB3
     clear hw3 hf3 hb3
     go_wp2_with (refine store_form_at rfl (.tmp 33) (.tmp 32) rfl HST3.out.own hlt ⟨true, (A3, n3, c3, ws.drop m)⟩ rfl rfl ?_)
     generalize (w3.setCells g (k * 2) (FormR.cells ⟨true, (A3, n3, c3, ws.drop m)⟩)) = V4 at *
     go_roundw
     case rel => exact ⟨k + 1, _, by go_num, by omega, HST4.out, HN.out, hB4⟩
     case measure => simp [intOf]; omega
  ·have hk1 : ¬ ((k : Int) < (n : Int)) := by omega
   have HD : Hid (fs.map FormR.data = endsOf l) := by
    show _ = _
    rw [hdat.out, show n - k = 0 by omega, List.take_of_length_le (by rw [HEL.out]; omega)]; simp
   go_wp2
   go_ret
   have hsz := HB1.out.size
   refine ⟨some ⟨g, 0, none⟩, n, n, rfl, ⟨fs, HD.out, ?_, fun f hf => ⟨(hst.out.ww f hf).1, fun ad had => by have := (hst.out.ww f hf).2 ad had; omega⟩⟩, hBB⟩
   rcases hst.out.own with ⟨q1, q2⟩
   exact ⟨q1, q2.imp id fun ⟨g', cap, cur, e1, e2, e3⟩ => ⟨g', cap, cur, e1, by omega, e3⟩⟩
def RetFormsE (w : World) (r : Int × List Frm) (e : Ending) (w' : World) : Prop := ∃ A n c, e = .returned (.tuple #[.slice A n c, .int .i64 r.1]) ∧ OwnForms w.heap.size w' A n c r.2 ∧ Below w.heap.size w w'
theorem OwnForms.nil (B : Nat) (w : World) : OwnForms B w none 0 0 [] := ⟨[], rfl, World.ownsRow_nil _ _ _ _, fun f hf => by cases hf⟩
theorem RetFormsE.bad {w w' : World} {r : Int × List Frm} {er : Int} (h : r = (er, [])) (hb : Below w.heap.size w w') : RetFormsE w r (.returned (.tuple #[.slice none 0 0, .int .i64 er])) w' := by
 subst h
 exact ⟨none, 0, 0, rfl, OwnForms.nil _ _, hb⟩
theorem stem_good {T : List (List Frm)} {r : Int} (h : (pStemM T r).1 = 0) : lineE T r = 0 ∧ stemK (lineR T r) ≠ none := by
 unfold pStemM at h
 by_cases h0 : lineE T r = 0
 ·refine ⟨h0, fun hs => ?_⟩
  rw [if_neg (by simpa using h0)] at h
  unfold stemM at h
  rw [hs] at h
  exact absurd h (by decide)
 ·rw [if_pos h0] at h; exact absurd h h0
theorem line_good {T : List (List Frm)} {r : Int} (h : lineE T r = 0) : parE T = 0 ∧ 0 ≤ r ∧ r < (T.length : Int) ∧ T[r.toNat]? = some (lineR T r) := by
 unfold lineE at h
 by_cases h0 : parE T = 0
 ·rw [if_neg (by simpa using h0)] at h
  by_cases h1 : r < 0 ∨ (T.length : Int) ≤ r
  ·rw [if_pos h1] at h; exact absurd h (by decide)
  ·refine ⟨h0, by omega, by omega, ?_⟩
   unfold lineR
   rw [List.getD_eq_getElem?_getD, List.getElem?_eq_getElem (by omega)]; rfl
 ·rw [if_pos h0] at h; exact absurd h h0
theorem par_shape {T : List (List Frm)} (h : parE T = 0) : shapeE T = 0 := by
 unfold parE at h
 by_cases h0 : shapeE T = 0
 ·exact h0
 ·rw [if_pos h0] at h; exact absurd h h0
theorem pEndings_c (A : Option Addr) (n c : Nat) (T : List (List Frm)) (r : Int) (w : World) (hx : IsPar w A n c T) (hr : -9223372036854775808 ≤ r ∧ r ≤ 9223372036854775807) :
  Calls Tryz.prog 32 #[.slice A n c, .int .i64 r] w (RetFormsE w (pEndsM T r)) := by
 have HX := hI hx; clear hx
 go_enter Tryz.func32, Tryz.ntmps32
 go_wp2_with fail
 refine (pStem_c A n c T r w HX.out hr).mono ?_
 rintro e w1 ⟨A1, n1, c1, rfl, _, hB1, _⟩
 obtain ⟨er, her⟩ : ∃ er, er = (pStemM T r).1 := ⟨_, rfl⟩
 rw [← her]
 by_cases h0 : er = 0
 case neg =>
  have h1 : (er != 0) = true := by simpa using h0
  have HM : Hid (pEndsM T r = (er, [])) := by show _ = _; unfold pEndsM; rw [← her, if_pos h0]
  clear h0 her
  go_wp2
  go_ret2
  exact RetFormsE.bad HM.out hB1
 have h1 : (er != 0) = false := by simpa using h0
 have HM : Hid (pEndsM T r = (0, endsOf (lineR T r))) := by show _ = _; unfold pEndsM; rw [← her, if_neg (by simpa using h0)]
 obtain ⟨h2, _⟩ := stem_good (her.symm.trans h0)
 obtain ⟨h3, h4, h5, h6⟩ := line_good h2
 clear h0 her h2
 have hl := HX.out.len
 obtain ⟨k, rfl⟩ : ∃ k : Nat, r = k := ⟨r.toNat, by omega⟩
 have hk : k < n := by omega
 have hk1 : (k : Int) < (n : Int) := by omega
 obtain ⟨b, off, A2, n2, c2, l, rfl, hbl, hc1, hlk, hfl⟩ := (HX.out.below hB1 rr).at_ hk
 rw [Int.toNat_natCast, hlk] at h6
 obtain rfl : l = lineR T (k : Int) := by simpa using h6
 have hmem := List.mem_of_getElem? hlk
 have h16 := (shape_len (par_shape h3)).2.1 _ hmem
 rw [hfl.len] at h16
 have HOK : Hid (∀ x ∈ lineR T (k : Int), x.2.length ≤ 4096) := fun x hx => by have := wcheck_len (words_all h3 hmem hx); omega
 have HF := hI hfl
 clear hfl hlk hmem h6 h3 h5 hl
 go_wp2_with fail
 refine (pEnds_c A2 n2 c2 (lineR T (k : Int)) w1 HF.out (by omega) HOK.out).mono ?_
 rintro e w2 ⟨A3, n3, c3, rfl, ho, hb2⟩
 have HO : Hid (OwnForms w.heap.size w2 A3 n3 c3 (endsOf (lineR T (k : Int)))) := by
  obtain ⟨fs, q1, ⟨q2, q3⟩, q4⟩ := ho
  have hsz := hB1.size
  exact ⟨fs, q1, ⟨q2, q3.imp id fun ⟨g', cap, cur, e1, e2, e3⟩ => ⟨g', cap, cur, e1, by omega, e3⟩⟩, fun f hf => ⟨(q4 f hf).1, fun ad had => Nat.le_trans hsz ((q4 f hf).2 ad had)⟩⟩
 clear ho
 go_wp2
 go_ret2
 exact ⟨A3, n3, c3, by rw [HM.out]; rfl, by rw [HM.out]; exact HO.out, hB1.trans (hb2.mono hB1.size)⟩
section
variable {α : Type} [DecidableEq α]
theorem labels_len (l : List α) : (labelsM l).length = l.length := by simp [labelsM]
theorem labels_at {l : List α} {k : Nat} {x : α} (h : l[k]? = some x) : (labelsM l)[k]? = some ((l.findIdx (fun y => decide (y = x)) : Nat) : Int) := by unfold labelsM; rw [List.getElem?_map, h]; rfl
theorem lab_le {l : List α} {k : Nat} {x : α} (h : l[k]? = some x) : l.findIdx (fun y => decide (y = x)) ≤ k := by
 obtain ⟨hk, hk'⟩ := List.getElem?_eq_some_iff.1 h
 rcases Nat.lt_or_ge k (l.findIdx fun y => decide (y = x)) with h1 | h1
 ·have := List.not_of_lt_findIdx h1
  simp [hk'] at this
 ·exact h1
theorem lab_is {l : List α} {j : Nat} {x y : α} (h : l[j]? = some y) (hj : j ≤ l.findIdx (fun y => decide (y = x))) (he : y = x) : l.findIdx (fun y => decide (y = x)) = j := by
 subst he
 have := lab_le h
 omega
theorem lab_next {l : List α} {j : Nat} {x y : α} (h : l[j]? = some y) (hj : j ≤ l.findIdx (fun y => decide (y = x))) (he : y ≠ x) : j + 1 ≤ l.findIdx (fun y => decide (y = x)) := by
 rcases Nat.lt_or_ge j (l.findIdx fun y => decide (y = x)) with h1 | h1
 ·exact h1
 ·have h2 : l.findIdx (fun y => decide (y = x)) = j := by omega
  have hlt := (List.getElem?_eq_some_iff.1 h)
  have h3 := List.findIdx_getElem (xs := l) (p := fun y => decide (y = x)) (w := by rw [h2]; exact hlt.1)
  simp only [h2, hlt.2, decide_eq_true_eq] at h3
  exact absurd h3 he
end
theorem set_id {l : List Int} {j : Nat} {v : Int} (h : l[j]? = some v) : l.set j v = l := by
 apply List.ext_getElem?
 intro k
 rw [List.getElem?_set]
 split
 ·rename_i hk; subst hk; rw [if_pos (List.getElem?_eq_some_iff.1 h).1, h]
 ·rfl
theorem cntC_meas {w : World} {g i j : Nat} {row : List Int} {t : TypeId} (h : w.heap[g]? = some (.cells (cntC (row.set i (j : Int))) t (0, 0))) (hi : i < row.length) : (intOf ((w.cell? ⟨g, i, none⟩).getD undef)).toNat = j := by
 rw [cntC_get h (List.getElem?_set_self hi)]; simp [intOf]
def RetIntsN (w : World) (l : List Int) (e : Ending) (w' : World) : Prop := ∃ A n c, e = .returned (.slice A n c) ∧ IsInts w' A n c l ∧ Below w.heap.size w w'
theorem labelsF_c (A : Option Addr) (n c : Nat) (l : List Frm) (w : World) (hx : IsForms w A n c l) (hn : n ≤ 4096) :
  Calls Tryz.prog 91 #[.slice A n c, .func (.func 92) #[] #[]] w (RetIntsN w (labelsM l)) := by
 have hE := enters_of Tryz.func92 (by kernel_rfl) rfl
 unfold Enters at hE
 go_enter Tryz.func91, Tryz.ntmps91
 have HX := hI hx; clear hx
 have hmk := fun w => run_make_row' (P := Tryz.prog) 43 3 (.int .i64 0) 8 Tryz.underlying43 int_info rfl .i64 .i64 n (by omega) (by omega) w
 go_wp2_with fail
 clear hmk
 rw [made_cnt]
 have kg : (w.alloc (.cells (cntC (List.replicate n 0)) 3)).heap[w.heap.size]? = some (.cells (cntC (List.replicate n 0)) 3 (0, 0)) := hpt
 have kB : Below w.heap.size w (w.alloc (.cells (cntC (List.replicate n 0)) 3)) := bel
 generalize (w.alloc (.cells (cntC (List.replicate n 0)) 3)) = V0 at *
 obtain ⟨g, eg⟩ : ∃ g, g = w.heap.size := ⟨_, rfl⟩
 rw [← eg] at kg ⊢
 have heg : w.heap.size ≤ g := Nat.le_of_eq eg.symm
 clear eg
 have KG := hI kg; clear kg
 have KB := hI kB; clear kB
 have hnm : n ≤ maxLen := by unfold maxLen; omega
 have HLL : Hid ((labelsM l).length = n) := by show _ = _; rw [labels_len, HX.out.len]
 go_loopw [13] (fun vi wr => ∃ (i : Nat) (row : List Int), vi = .int .i64 i ∧ i ≤ n ∧ Hid (wr.heap[g]? = some (.cells (cntC row) 3 (0, 0))) ∧ Hid (row = (labelsM l).take i ++ List.replicate (n - i) 0) ∧ Below w.heap.size w wr) (fun vi _ => n - (intOf vi).toNat)
 case atStart => exact ⟨0, List.replicate n 0, rfl, Nat.zero_le _, KG.out, by simp [Hid], KB.out⟩
 case round =>
  obtain ⟨i, row, rfl, hi, hh, hrow, hB⟩ := hrel
  have hBs := hB.size
  by_cases hlt : i < n
  ·have hi1 : (i : Int) < (n : Int) := by omega
   obtain ⟨b, off, h, A1, n1, c1, ws, rfl, hb, hc00, hc10, hli, hws⟩ := HX.out.at_ hlt
   have hc0 := (hB.cell (p := ⟨b, off + i * 2, none⟩) hb).trans hc00
   have hc1 := (hB.cell (p := ⟨b, off + i * 2 + 1, none⟩) hb).trans hc10
   clear hc00 hc10
   obtain ⟨x, hx⟩ : ∃ x : Frm, x = (h, ws) := ⟨_, rfl⟩
   rw [← hx] at hli
   have HLI := hI hli; clear hli
   have HXE := hI hx; clear hx
   have hb1 : Below wr.heap.size wr (wr.alloc (.cells #[.bool h, .slice A1 n1 c1] 57)) := bel
   have HW := hI hws; clear hws
   have HH1 := hI ((hb1.block g (lt_of_block hh.out)).trans hh.out)
   have hbx : (wr.alloc (.cells #[.bool h, .slice A1 n1 c1] 57)).heap[wr.heap.size]? = some (.cells #[.bool h, .slice A1 n1 c1] 57 (0, 0)) := hpt
   have hB1 := hB.trans (hb1.mono hBs)
   have hrl : row.length = n := by rw [hrow.out, List.length_append, List.length_take, List.length_replicate, HLL.out]; omega
   have HR0 : Hid (row[i]? = some 0) := by show _ = _; rw [hrow.out]; exact part_at hlt HLL.out
   go_wp2_with fail
   clear hc0 hc1
   generalize (wr.alloc (.cells #[.bool h, .slice A1 n1 c1] 57)) = V1 at *
   obtain ⟨bx, hbxe⟩ : ∃ bx, bx = wr.heap.size := ⟨_, rfl⟩
   rw [← hbxe] at hbx ⊢
   have HBX := hI hbx
   have hbxl : wr.heap.size ≤ bx := Nat.le_of_eq hbxe.symm
   have hgx : g ≠ bx := by have := lt_of_block hh.out; omega
   clear hbx hbxe hb1 hB
   go_loopw [] (fun wr => ∃ j : Nat, Hid (wr.heap[g]? = some (.cells (cntC (row.set i (j : Int))) 3 (0, 0))) ∧ Hid (j ≤ l.findIdx (fun y => decide (y = x))) ∧ Hid (wr.heap[bx]? = some (.cells #[.bool h, .slice A1 n1 c1] 57 (0, 0))) ∧ Below w.heap.size w wr) (fun wr => n - (intOf ((wr.cell? ⟨g, i, none⟩).getD undef)).toNat)
   case atStart => exact ⟨0, by rw [show row.set i ((0 : Nat) : Int) = row from set_id HR0.out]; exact HH1.out, Nat.zero_le _, HBX.out, hB1⟩
   case round =>
    obtain ⟨j, HH5, hjl, hx5, hB5⟩ := hrel
    have hjlt : j ≤ i := Nat.le_trans hjl.out (lab_le HLI.out)
    have hB5s := hB5.size
    obtain ⟨b', off', h', A2, n2, c2, ws', hA', hb', hd0, hd1, hlj, hws'⟩ := (HX.out.below hB5 rr).at_ (show j < n by omega)
    obtain ⟨rfl, rfl⟩ : b = b' ∧ off = off' := by simpa using hA'
    clear hA'
    obtain ⟨y, hy⟩ : ∃ y : Frm, y = (h', ws') := ⟨_, rfl⟩
    rw [← hy] at hlj
    have HLJ := hI hlj; clear hlj
    have HYE := hI hy; clear hy
    have HW' := hI hws'; clear hws'
    have k2 : wr.cell? ⟨g, i, none⟩ = some (.int .i64 j) := cntC_get HH5.out (by rw [List.getElem?_set_self (by omega)])
    have e0 : wr.cell? ⟨bx, 0, none⟩ = some (.bool h) := cell_at_heap hx5.out rfl
    have e1 : wr.cell? ⟨bx, 1, none⟩ = some (.slice A1 n1 c1) := cell_at_heap hx5.out rfl
    have hj1 : (j : Int) < (n : Int) := by omega
    go_wp2_with fail
    refine plain_region (fun W' => W'.cell? ⟨g, i, none⟩ = some (.int .i64 j) ∧ W'.cell? ⟨b, off + j * 2, none⟩ = some (.bool h') ∧ W'.cell? ⟨b, off + j * 2 + 1, none⟩ = some (.slice A2 n2 c2) ∧ W'.cell? ⟨bx, 0, none⟩ = some (.bool h) ∧ W'.cell? ⟨bx, 1, none⟩ = some (.slice A1 n1 c1)) (by kernel_rfl) ⟨k2, hd0, hd1, e0, e1⟩ (fun hHeld => ?_)
    (refine' anyT_tk 0 rfl ?_; (try simp only [Act.put, nY, nX])); (refine' anyT_tk 1 rfl ?_; (try simp only [Act.put, nY, nX])); (refine' anyT_tk 2 rfl ?_; (try simp only [Act.put, nY, nX])); (refine' anyT_tk 3 rfl ?_; (try simp only [Act.put, nY, nX])); (refine' anyT_tk 4 rfl ?_; (try simp only [Act.put, nY, nX])); (refine' anyT_tk 5 rfl ?_; (try simp only [Act.put, nY, nX])); (refine' anyT_tk 6 rfl ?_; (try simp only [Act.put, nY, nX])); (refine' anyT_tk 7 rfl ?_; (try simp only [Act.put, nY, nX])); (refine' anyT_tk 8 rfl ?_; (try simp only [Act.put, nY, nX]))
    (refine anyT_sp 9 rfl (fun K' hK' => ?_); simp only [nY]; go_simp)
    have hd5 : Below wr.heap.size wr wr.drew := (Below.refl wr.heap.size wr).drew
    have hB5d := hB5.trans (hd5.mono hB5s)
    refine (pEqual_c ⟨h', (A2, n2, c2, ws')⟩ ⟨h, (A1, n1, c1, ws)⟩ _ (HW'.out.below hd5 rr) (HW.out.below hB5d rr)).mono ?_
    rintro e w6 ⟨rfl, hb6'⟩
    have hb6 : Below wr.heap.size wr w6 := hd5.trans (hb6'.mono hd5.size)
    have hB6 := hB5.trans (hb6.mono hB5s)
    have hx6 := (hb6.block bx (lt_of_block hx5.out)).trans hx5.out
    have HH6 := hI ((hb6.block g (lt_of_block HH5.out)).trans HH5.out)
    obtain ⟨d, hd⟩ : ∃ d, d = decide (FormR.data ⟨h', (A2, n2, c2, ws')⟩ = FormR.data ⟨h, (A1, n1, c1, ws)⟩) := ⟨_, rfl⟩
    rw [← hd]
    have HDD : Hid (d = decide (y = x)) := by show _ = _; rw [hd, HYE.out, HXE.out]; rfl
    clear hd
    refine hK' _ _ ⟨.inr ⟨cntC_get HH6.out (by rw [List.getElem?_set_self (by omega)]), (hb6.cell (p := ⟨b, off + j * 2, none⟩) hb').trans hd0, (hb6.cell (p := ⟨b, off + j * 2 + 1, none⟩) hb').trans hd1, cell_at_heap hx6 rfl, cell_at_heap hx6 rfl⟩, fun _ => ?_⟩
    clear hK' K' hHeld hd0 hd1 e0 e1 k2 hd5 hb6 hb6'
    (try simp only [Act.put, nY, nX])
    (refine anyT_sp 10 rfl (fun K' hK' => ?_); simp only [nY]; go_simp)
    refine hK' _ _ ⟨.inl (by kernel_rfl), fun _ => anyT_done (by kernel_rfl) ?_ _⟩
    clear hK' K'
    have HX6 := hI hx6; clear hx6
    cases d
    ·have heq : y ≠ x := of_decide_eq_false HDD.out.symm
     clear HDD
     have HNX : Hid (j + 1 ≤ l.findIdx (fun y => decide (y = x))) := lab_next HLJ.out hjl.out heq
     have hji : j + 1 ≤ i := Nat.le_trans HNX.out (lab_le HLI.out)
     clear heq
     have k2 : w6.cell? ⟨g, i, none⟩ = some (.int .i64 j) := cntC_get HH6.out (by rw [List.getElem?_set_self (by omega)])
     have k3 := frozen_of_row w6 g i _ _ HH6.out
     have hgs := lt_of_block HH6.out
     go_wp2
     have t1 : (w6.setCell ⟨g, i, none⟩ (.int .i64 ((j : Int) + 1))).heap[g]? = some (.cells (cntC (row.set i ((j + 1 : Nat) : Int))) 3 (0, 0)) := by
      have := heap_setCell_same (o := i) (u := .int .i64 ((j : Int) + 1)) HH6.out
      rw [cntC_set, List.set_set] at this
      exact this
     have hB7 : Below w.heap.size w (w6.setCell ⟨g, i, none⟩ (.int .i64 ((j : Int) + 1))) := hB6.setCell (p := ⟨g, i, none⟩) (by simp; omega) _
     go_roundw
     case rel => exact ⟨j + 1, t1, HNX.out, (Below.heap_setCell w6 ⟨g, i, none⟩ (.int .i64 ((j : Int) + 1)) bx (by simp; omega)).trans HX6.out, hB7⟩
     case measure => rw [cntC_meas t1 (by omega), cntC_meas HH5.out (by omega)]; omega
    ·have heq : y = x := of_decide_eq_true HDD.out.symm
     clear HDD
     have HN : Hid (row.set i (j : Int) = (labelsM l).take (i + 1) ++ List.replicate (n - (i + 1)) 0) := by
      show _ = _
      rw [hrow.out]
      exact set_part hlt HLL.out (by rw [labels_at HLI.out, lab_is HLJ.out hjl.out heq])
     clear heq
     go_wp2
     go_roundw
     case rel => exact ⟨i + 1, row.set i (j : Int), by go_num, by omega, HH6.out, HN.out, hB6⟩
     case measure => simp [intOf]; omega
  ·have hi1 : ¬ ((i : Int) < (n : Int)) := by omega
   have HD : Hid (row = labelsM l) := by show _ = _; rw [hrow.out, show n - i = 0 by omega, List.take_of_length_le (by rw [HLL.out]; omega)]; simp
   go_wp2
   go_ret
   exact ⟨some ⟨g, 0, none⟩, n, n, rfl, ints_row (by rw [← HD.out]; exact hh.out) HLL.out hnm, hB⟩
end Go.Proofs.YtlgliddhideflaaGreatDoor

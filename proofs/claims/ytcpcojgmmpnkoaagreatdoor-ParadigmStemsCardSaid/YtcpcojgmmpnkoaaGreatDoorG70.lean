/-
  ablautref29: row, stem, Stem.
  ablautref29: Stem, endings, Endings.
-/
import Derived.Test.YtcpcojgmmpnkoaaGreatDoorG61
import Derived.Test.YtcpcojgmmpnkoaaGreatDoorG68
import Derived.Test.YtcpcojgmmpnkoaaGreatDoorXR29c
set_option linter.unusedVariables false
set_option linter.unusedSimpArgs false
set_option maxRecDepth 100000
set_option maxHeartbeats 4000000
namespace Go.Proofs.YtcpcojgmmpnkoaaGreatDoor
open Go.RowKit Go.Shelf
theorem r29row_c (A : Option Addr) (n c : Nat) (T : List (List Frm)) (r : Int) (w : World) (hx : IsPar w A n c T) (hu : ParU T) (hr : -9223372036854775808 ≤ r ∧ r ≤ 9223372036854775807) :
  Calls Tryz.prog 106 #[.slice A n c, .int .i64 r] w fun e w' => e = .returned (.int .i64 (lineE T r)) ∧ Below w.heap.size w w' := by
 have hl := hx.len
 have HX := hI hx; clear hx
 have HU := hI hu; clear hu
 go_enter Tryz.func106, Tryz.ntmps106
 go_wp2_with fail
 refine (r29Check_c A n c T w HX.out HU.out).mono ?_
 obtain ⟨er, her⟩ : ∃ er, er = parE T := ⟨_, rfl⟩
 rw [← her]
 rintro e w1 ⟨rfl, hB⟩
 have HL : Hid (lineE T r = if er ≠ 0 then er else if r < 0 ∨ (n : Int) ≤ r then 3 else 0) := by show _ = _; unfold lineE; rw [← her, hl]
 clear her hl
 by_cases h0 : er = 0
 case neg =>
  have h1 : (er != 0) = true := by simpa using h0
  have HL' : Hid (lineE T r = er) := by show _ = _; rw [HL.out, if_pos h0]
  clear h0
  go_wp2
  go_ret
  exact ⟨by rw [HL'.out]; rfl, hB⟩
 have h1 : (er != 0) = false := by simpa using h0
 replace HL : Hid (lineE T r = if r < 0 ∨ (n : Int) ≤ r then 3 else 0) := by show _ = _; rw [HL.out, if_neg (by simpa using h0)]
 clear h0
 by_cases h2 : r < 0
 ·have HL' : Hid (lineE T r = 3) := by show _ = _; rw [HL.out, if_pos (.inl h2)]
  go_wp2
  go_ret
  exact ⟨by rw [HL'.out]; rfl, hB⟩
 by_cases h3 : (n : Int) ≤ r
 ·have HL' : Hid (lineE T r = 3) := by show _ = _; rw [HL.out, if_pos (.inr h3)]
  go_wp2
  go_ret
  exact ⟨by rw [HL'.out]; rfl, hB⟩
 ·have HL' : Hid (lineE T r = 0) := by show _ = _; rw [HL.out, if_neg (by omega)]
  go_wp2
  go_ret
  exact ⟨by rw [HL'.out]; rfl, hB⟩
def stemW (s : Option (Nat × List Snd)) : List Snd := match s with | none => [] | some s => s.2.take s.1
theorem stem_drop2 {l : List Frm} {k : Nat} {x : Frm} {s : Option (Nat × List Snd)} (h : l[k]? = some x) (h1 : x.1 = false) : stemGo (l.drop k) s = stemGo (l.drop (k + 1)) s := by
 rw [stem_drop h, h1]; rfl
def RetStem2 (w : World) (l : List Frm) (e : Ending) (w' : World) : Prop := ∃ A n c, e = .returned (.tuple #[.slice A n c, .bool (stemK l).isSome]) ∧ IsWord w' A n c (stemW (stemK l)) ∧ Below w.heap.size w w' ∧ ∀ ad, A = some ad → w.heap.size ≤ ad.block
theorem r29stem_c (A : Option Addr) (n c : Nat) (l : List Frm) (w : World) (hx : IsForms w A n c l) (hl40 : ∀ x ∈ l, x.2.length ≤ 40) :
  Calls Tryz.prog 107 #[.slice A n c] w (RetStem2 w l) := by
 have hm := hx.max
 have HX := hI hx; clear hx
 have HL40 := hI hl40; clear hl40
 go_enter Tryz.func107, Tryz.ntmps107
 go_wp2_with fail
 go_loopw [4, 5, 6] (fun vo vf vi wr => ∃ (k : Nat) (s : Option (Nat × List Snd)), vi = .int .i64 k ∧ k ≤ n ∧ vf = .bool s.isSome ∧ Hid (∃ A n c, vo = .slice A n c ∧ IsWord wr A n c (stemW s)) ∧ Hid (∀ m f, s = some (m, f) → m ≤ f.length) ∧ Hid (stemK l = stemGo (l.drop k) s) ∧ Below w.heap.size w wr) (fun _ _ vi _ => n - (intOf vi).toNat)
 case atStart => exact ⟨0, none, rfl, Nat.zero_le _, rfl, ⟨none, 0, 0, rfl, Cells.nil _ _⟩, (fun m f h => by cases h), rfl, Below.refl _ _⟩
 case round =>
  obtain ⟨k, s, rfl, hk, rfl, hat, hmf, hgo, hB⟩ := hrel
  have hBs := hB.size
  by_cases hlt : k < n
  ·have hk1 : (k : Int) < (n : Int) := by omega
   obtain ⟨b, off, h, A1, n1, c1, ws, rfl, hb, hc0, hc1, hlk, hws⟩ := (HX.out.below hB rr).at_ hlt
   have hm1 := hws.max
   have HW := hI hws; clear hws
   cases h with
   | false =>
    have HN : Hid (stemK l = stemGo (l.drop (k + 1)) s) := hgo.out.trans (stem_drop2 hlk rfl)
    clear hlk
    go_wp2
    go_roundw
    case rel => exact ⟨k + 1, s, by go_num, by omega, rfl, hat.out, hmf.out, HN.out, hB⟩
    case measure => simp [intOf]; omega
   | true =>
    have HD := hI (stem_drop (s := s) hlk); clear hlk
    cases s with
    | none =>
     have HN : Hid (stemK l = stemGo (l.drop (k + 1)) (some (ws.length, ws))) := hgo.out.trans HD.out
     have HOW : Hid (IsWord wr A1 n1 c1 (stemW (some (ws.length, ws)))) := by show IsWord _ _ _ _ (ws.take ws.length); rw [List.take_length]; exact HW.out
     have HMF0 : Hid (∀ m f, (some (ws.length, ws) : Option (Nat × List Snd)) = some (m, f) → m ≤ f.length) := fun m f e => by
      obtain ⟨rfl, rfl⟩ : ws.length = m ∧ ws = f := by simpa using e
      exact rr
     simp only [Option.isSome_none]
     go_wp2
     go_roundw
     case rel => exact ⟨k + 1, some (ws.length, ws), by go_num, by omega, rfl, ⟨A1, n1, c1, rfl, HOW.out⟩, HMF0.out, HN.out, hB⟩
     case measure => simp [intOf]; omega
    | some s =>
     obtain ⟨m, f⟩ := s
     obtain ⟨A2, n2, c2, rfl, ho⟩ := hat.out
     have hm2 := ho.max
     have hnc2 : n2 ≤ c2 := ho.2.1
     have hmf1 := hmf.out m f rfl
     have hn2m : n2 = m := by
      rw [← ho.len]; show (f.take m).length = m; rw [List.length_take]; omega
     have HO := hI ho; clear ho hat
     have HN : Hid (stemK l = stemGo (l.drop (k + 1)) (some (min m (cpl f ws), f))) := hgo.out.trans HD.out
     have HMF : Hid (∀ m' f', (some (min m (cpl f ws), f) : Option (Nat × List Snd)) = some (m', f') → m' ≤ f'.length) := fun m' f' e => by
      obtain ⟨rfl, rfl⟩ : min m (cpl f ws) = m' ∧ f = f' := by simpa using e
      omega
     have HC0 := hI hc0
     have HC1 := hI hc1
     clear hgo hmf
     simp only [Option.isSome_some]
     subst hn2m
     obtain ⟨wi, hwi⟩ : ∃ wi, wi = wr := ⟨_, rfl⟩
     rw [← hwi] at HO HW HC0 HC1 hB hBs hb
     have HWI := hI hwi; clear hwi
     go_wp2_with fail
     clear hc0 hc1
     go_loopw [7] (fun vj wr => ∃ j : Nat, vj = .int .i64 j ∧ j ≤ n2 ∧ j ≤ n1 ∧ Hid (∀ i, i < j → (stemW (some (n2, f)))[i]? = ws[i]?) ∧ Below wi.heap.size wi wr) (fun vj _ => n2 - (intOf vj).toNat)
     case atStart => exact ⟨0, rfl, Nat.zero_le _, Nat.zero_le _, (fun i hi => by omega), by rw [HWI.out]; exact Below.refl _ _⟩
     case round =>
      obtain ⟨j, rfl, hj2, hj1, hall, hB2⟩ := hrel
      have hd1 := (hB2.cell (p := ⟨b, off + k * 2 + 1, none⟩) hb).trans HC1.out
      by_cases hlt2 : j < n2
      ·have hk2 : (j : Int) < (n2 : Int) := by omega
       by_cases hlt1 : j < n1
       ·have hk3 : (j : Int) < (n1 : Int) := by omega
        obtain ⟨b2, off2, p2, q2, rfl, hb2, hxk, hx0, hx1⟩ := (HO.out.below hB2 rr).at_ hlt2
        obtain ⟨b3, off3, p3, q3, rfl, hb3, hyk, hy0, hy1⟩ := (HW.out.below hB2 rr).at_ hlt1
        by_cases e1 : p2 = p3
        ·subst e1
         by_cases e2 : q2 = q3
         ·subst e2
          have HALL : Hid (∀ i, i < j + 1 → (stemW (some (n2, f)))[i]? = ws[i]?) := fun i hi => by
           rcases Nat.lt_or_ge i j with h | h
           ·exact hall.out i h
           ·obtain rfl : i = j := by omega
            rw [hxk, hyk]
          clear hxk hyk
          have he : (p2 == p2 && q2 == q2) = true := by simp
          go_wp2_with fail
          go_quiet (fail)
          go_wp2
          go_roundw
          case rel => exact ⟨j + 1, by go_num, by omega, by omega, HALL.out, bel⟩
          case measure => simp [intOf]; omega
         ·have he1 : (q2 == q3) = false := by simpa using e2
          have HNE : Hid ((stemW (some (n2, f)))[j]? ≠ ws[j]?) := by
           intro h3; rw [hxk, hyk] at h3; simp at h3; exact e2 h3
          clear e2 hxk hyk
          go_wp2_with fail
          go_quiet (fail)
          have HCP : Hid (cpl (stemW (some (n2, f))) ws = j) := cpl_eq _ _ j hall.out (by rw [HO.out.len]; omega) (by rw [HW.out.len]; omega) (.inr (.inr HNE.out))
          have HN2 : Hid (IsWord wr (some ⟨b2, off2, none⟩) j c2 (stemW (some (min n2 (cpl f ws), f)))) := by
           have h1 : min n2 (cpl f ws) = j := by rw [← cpl_take]; exact HCP.out
           have h2 : stemW (some (min n2 (cpl f ws), f)) = (stemW (some (n2, f))).take j := by
            show f.take (min n2 (cpl f ws)) = (f.take n2).take j
            rw [h1, List.take_take, Nat.min_eq_left (by omega)]
           rw [h2]
           exact (HO.out.below hB2 rr).take (by omega)
          have hjc : (j : Int) ≤ (c2 : Int) := by omega
          have hj00 : (0 : Int) ≤ (j : Int) := by omega
          go_wp2
          go_roundw
          case rel => exact ⟨k + 1, some (min n2 (cpl f ws), f), by go_num, by omega, rfl, ⟨(some ⟨b2, off2, none⟩), j, c2, rfl, HN2.out.below ((Below.refl _ _).drewN _) rr⟩, HMF.out, HN.out, (hB.trans (hB2.mono hB.size)).drewN _⟩
          case measure => simp [intOf]; omega
        ·have he1 : (p2 == p3) = false := by simpa using e1
         have HNE : Hid ((stemW (some (n2, f)))[j]? ≠ ws[j]?) := by
          intro h3; rw [hxk, hyk] at h3; simp at h3; exact e1 h3.1
         clear e1 hxk hyk
         go_wp2_with fail
         go_quiet (fail)
         have HCP : Hid (cpl (stemW (some (n2, f))) ws = j) := cpl_eq _ _ j hall.out (by rw [HO.out.len]; omega) (by rw [HW.out.len]; omega) (.inr (.inr HNE.out))
         have HN2 : Hid (IsWord wr (some ⟨b2, off2, none⟩) j c2 (stemW (some (min n2 (cpl f ws), f)))) := by
          have h1 : min n2 (cpl f ws) = j := by rw [← cpl_take]; exact HCP.out
          have h2 : stemW (some (min n2 (cpl f ws), f)) = (stemW (some (n2, f))).take j := by
           show f.take (min n2 (cpl f ws)) = (f.take n2).take j
           rw [h1, List.take_take, Nat.min_eq_left (by omega)]
          rw [h2]
          exact (HO.out.below hB2 rr).take (by omega)
         have hjc : (j : Int) ≤ (c2 : Int) := by omega
         have hj00 : (0 : Int) ≤ (j : Int) := by omega
         go_wp2
         go_roundw
         case rel => exact ⟨k + 1, some (min n2 (cpl f ws), f), by go_num, by omega, rfl, ⟨(some ⟨b2, off2, none⟩), j, c2, rfl, HN2.out.below ((Below.refl _ _).drewN _) rr⟩, HMF.out, HN.out, (hB.trans (hB2.mono hB.size)).drewN _⟩
         case measure => simp [intOf]; omega
       ·have hk3 : decide ((j : Int) < (n1 : Int)) = false := decide_eq_false (by omega)
        go_wp2_with fail
        go_quiet (fail)
        have HCP : Hid (cpl (stemW (some (n2, f))) ws = j) := cpl_eq _ _ j hall.out (by rw [HO.out.len]; omega) (by rw [HW.out.len]; omega) (.inr (.inl (by rw [HW.out.len]; omega)))
        have HN2 : Hid (IsWord wr A2 j c2 (stemW (some (min n2 (cpl f ws), f)))) := by
         have h1 : min n2 (cpl f ws) = j := by rw [← cpl_take]; exact HCP.out
         have h2 : stemW (some (min n2 (cpl f ws), f)) = (stemW (some (n2, f))).take j := by
          show f.take (min n2 (cpl f ws)) = (f.take n2).take j
          rw [h1, List.take_take, Nat.min_eq_left (by omega)]
         rw [h2]
         exact (HO.out.below hB2 rr).take (by omega)
        have hjc : (j : Int) ≤ (c2 : Int) := by omega
        have hj00 : (0 : Int) ≤ (j : Int) := by omega
        go_wp2
        go_roundw
        case rel => exact ⟨k + 1, some (min n2 (cpl f ws), f), by go_num, by omega, rfl, ⟨A2, j, c2, rfl, HN2.out.below ((Below.refl _ _).drewN _) rr⟩, HMF.out, HN.out, (hB.trans (hB2.mono hB.size)).drewN _⟩
        case measure => simp [intOf]; omega
      ·have hk2 : decide ((j : Int) < (n2 : Int)) = false := decide_eq_false (by omega)
       go_wp2_with fail
       go_quiet (fail)
       have HCP : Hid (cpl (stemW (some (n2, f))) ws = j) := cpl_eq _ _ j hall.out (by rw [HO.out.len]; omega) (by rw [HW.out.len]; omega) (.inl (by rw [HO.out.len]; omega))
       have HN2 : Hid (IsWord wr A2 j c2 (stemW (some (min n2 (cpl f ws), f)))) := by
        have h1 : min n2 (cpl f ws) = j := by rw [← cpl_take]; exact HCP.out
        have h2 : stemW (some (min n2 (cpl f ws), f)) = (stemW (some (n2, f))).take j := by
         show f.take (min n2 (cpl f ws)) = (f.take n2).take j
         rw [h1, List.take_take, Nat.min_eq_left (by omega)]
        rw [h2]
        exact (HO.out.below hB2 rr).take (by omega)
       have hjc : (j : Int) ≤ (c2 : Int) := by omega
       have hj00 : (0 : Int) ≤ (j : Int) := by omega
       go_wp2
       go_roundw
       case rel => exact ⟨k + 1, some (min n2 (cpl f ws), f), by go_num, by omega, rfl, ⟨A2, j, c2, rfl, HN2.out.below ((Below.refl _ _).drewN _) rr⟩, HMF.out, HN.out, (hB.trans (hB2.mono hB.size)).drewN _⟩
       case measure => simp [intOf]; omega
  ·have hk1 : ¬ ((k : Int) < (n : Int)) := by omega
   have HN : Hid (stemK l = s) := by show _ = _; rw [hgo.out, List.drop_eq_nil_of_le (by rw [HX.out.len]; omega)]; rfl
   obtain ⟨A2, n2, c2, rfl, ho⟩ := hat.out
   have hn4 : n2 ≤ 4000 := by
    cases hs : s with
    | none => rw [hs] at ho; have h1 : ([] : List Snd).length = n2 := ho.len; simp at h1; omega
    | some s' =>
     obtain ⟨m, f⟩ := s'
     have h1 : (f.take m).length = n2 := by have h2 := ho.len; rw [hs] at h2; exact h2
     obtain ⟨x, hx, hx1, hx2⟩ := stemK_first (HN.out.trans hs)
     have h3 := HL40.out x hx
     rw [hx2] at h3
     rw [List.length_take] at h1
     omega
   have HO := hI ho; clear ho
   go_wp2_with fail
   refine (r2Copy_c A2 n2 c2 (stemW s) wr HO.out hn4).mono ?_
   rintro e w5 ⟨A5, n5, c5, rfl, hw5, hb5, hf5⟩
   have HF5 : Hid (∀ ad, A5 = some ad → w.heap.size ≤ ad.block) := fun ad had => Nat.le_trans hB.size (hf5 ad had)
   clear hf5
   have HW5 := hI hw5; clear hw5
   have hB5 := hB.trans (hb5.mono hB.size)
   clear hb5
   go_wp2
   go_ret2
   exact ⟨A5, n5, c5, by rw [HN.out]; rfl, by rw [HN.out]; exact HW5.out, hB5, HF5.out⟩
theorem line_in {T : List (List Frm)} {r : Int} (h : lineE T r = 0) : parE T = 0 ∧ 0 ≤ r ∧ r < (T.length : Int) := by
 unfold lineE at h
 by_cases hp : parE T = 0
 ·rw [if_neg (by simp [hp])] at h
  by_cases hq : r < 0 ∨ (T.length : Int) ≤ r
  ·rw [if_pos hq] at h; exact absurd h (by decide)
  ·exact ⟨hp, by omega, by omega⟩
 ·rw [if_pos hp] at h; exact absurd h hp
theorem par_row {T : List (List Frm)} (h : parE T = 0) {l : List Frm} (hl : l ∈ T) : l.length ≤ 16 ∧ (∀ x ∈ l, x.2.length ≤ 40) ∧ ∀ x ∈ l, x.1 = false → x.2 = [] :=
 ⟨(shape_len (par_shape h)).2.1 _ hl, fun x hx => by have := wcheck_len (words_all h hl hx); omega, fun x hx => ((shape_len (par_shape h)).2.2 _ hl).2 x hx⟩
theorem row_at {T : List (List Frm)} {k : Nat} {l : List Frm} (h : T[k]? = some l) : lineR T (k : Int) = l := by
 unfold lineR
 rw [List.getD_eq_getElem?_getD, show ((k : Int).toNat) = k from Int.toNat_natCast k, h]; rfl
theorem r29Stem_c (A : Option Addr) (n c : Nat) (T : List (List Frm)) (r : Int) (w : World) (hx : IsPar w A n c T) (hu : ParU T) (hr : -9223372036854775808 ≤ r ∧ r ≤ 9223372036854775807) :
  Calls Tryz.prog 45 #[.slice A n c, .int .i64 r] w (RetWE w (pStemM T r)) := by
 have HX := hI hx; clear hx
 have HU := hI hu; clear hu
 go_enter Tryz.func45, Tryz.ntmps45
 go_wp2_with fail
 refine (r29row_c A n c T r w HX.out HU.out hr).mono ?_
 obtain ⟨er, her⟩ : ∃ er, er = lineE T r := ⟨_, rfl⟩
 rw [← her]
 rintro e w1 ⟨rfl, hB1⟩
 by_cases h0 : er = 0
 case neg =>
  have h1 : (er != 0) = true := by simpa using h0
  have HM : Hid (pStemM T r = (er, [])) := by show _ = _; unfold pStemM; rw [← her, if_pos h0]
  clear h0 her
  go_wp2
  go_ret2
  exact ⟨none, 0, 0, by rw [HM.out]; rfl, by rw [HM.out]; exact Cells.nil _ _, hB1, fun _ h => by cases h⟩
 have h1 : (er != 0) = false := by simpa using h0
 have hle : lineE T r = 0 := her.symm.trans h0
 have HM : Hid (pStemM T r = match stemM (lineR T r) with | none => (5, []) | some w => (0, w)) := by show _ = _; unfold pStemM; rw [if_neg (by simpa using hle)]; cases stemM (lineR T r) <;> rfl
 obtain ⟨hpe, hr0, hrn⟩ := line_in hle
 rw [HX.out.len] at hrn
 obtain ⟨k, rfl⟩ : ∃ k : Nat, r = k := ⟨r.toNat, by omega⟩
 clear h0 her hle hr hr0
 have hlt : k < n := by omega
 obtain ⟨b, off, A1, n1, c1, l, rfl, hb, hc0, hlk, hfl⟩ := (HX.out.below hB1 rr).at_ hlt
 rw [row_at hlk] at HM
 have HROW := hI (par_row hpe (List.mem_of_getElem? hlk))
 have HF := hI hfl
 clear hfl hlk hpe
 go_wp2_with fail
 refine (r29stem_c A1 n1 c1 l w1 HF.out HROW.out.2.1).mono ?_
 rintro e w2 ⟨A2, n2, c2, rfl, hw2, hb2, hf2⟩
 have hB2 := hB1.trans (hb2.mono hB1.size)
 have HW2 := hI hw2
 have HF2 : Hid (∀ ad, A2 = some ad → w.heap.size ≤ ad.block) := fun ad had => Nat.le_trans hB1.size (hf2 ad had)
 clear hb2 hw2 hf2
 cases hs : stemK l with
 | none =>
  have HM' : Hid (pStemM T (k : Int) = (5, [])) := by show _ = _; rw [HM.out]; unfold stemM; rw [hs]; rfl
  simp only [Option.isSome_none]
  clear hs
  go_wp2
  go_ret2
  exact ⟨none, 0, 0, by rw [HM'.out]; rfl, by rw [HM'.out]; exact Cells.nil _ _, hB2, fun _ h => by cases h⟩
 | some s =>
  obtain ⟨m, f⟩ := s
  have HM' : Hid (pStemM T (k : Int) = (0, f.take m)) := by show _ = _; rw [HM.out]; unfold stemM; rw [hs]; rfl
  have HWS : Hid (IsWord w2 A2 n2 c2 (f.take m)) := by have := HW2.out; rw [hs] at this; exact this
  simp only [Option.isSome_some]
  clear hs
  go_wp2
  go_ret2
  exact ⟨A2, n2, c2, by rw [HM'.out]; rfl, by rw [HM'.out]; exact HWS.out, hB2, HF2.out⟩
theorem stemW_len (l : List Frm) : (stemW (stemK l)).length = (stemN l).toNat := by
 unfold stemN
 cases hs : stemK l with
 | none => rfl
 | some s =>
  obtain ⟨m, f⟩ := s
  have h1 := stemK_le hs
  show (f.take m).length = ((m : Nat) : Int).toNat
  rw [List.length_take, Int.toNat_natCast]; omega
theorem stem_short {l : List Frm} {x : Frm} (hx : x ∈ l) (h1 : x.1 = true) : (stemN l).toNat ≤ x.2.length := by
 unfold stemN
 cases hs : stemK l with
 | none => exact Nat.zero_le _
 | some s =>
  obtain ⟨m, f⟩ := s
  show ((m : Nat) : Int).toNat ≤ _
  rw [Int.toNat_natCast]; exact stemK_short hs hx h1
def RetFms0 (w : World) (l : List Frm) (e : Ending) (w' : World) : Prop := ∃ A n c, e = .returned (.slice A n c) ∧ IsForms w' A n c l ∧ Below w.heap.size w w'
theorem r29ends_c (A : Option Addr) (n c : Nat) (l : List Frm) (w : World) (hx : IsForms w A n c l) (hl40 : ∀ x ∈ l, x.2.length ≤ 40) (hl16 : n ≤ 16) :
  Calls Tryz.prog 108 #[.slice A n c] w (RetFms0 w (endsOf l)) := by
 have hm := hx.max
 have HX := hI hx; clear hx
 have HL40 := hI hl40; clear hl40
 go_enter Tryz.func108, Tryz.ntmps108
 go_wp2_with fail
 refine (r29stem_c A n c l w HX.out HL40.out).mono ?_
 rintro e w1 ⟨A2, sl, c2, rfl, hw2, hB1, _⟩
 have hsl : sl = (stemN l).toNat := by rw [← stemW_len, hw2.len]
 have HSL := hI hsl; clear hsl hw2
 have HB1 := hI hB1; clear hB1
 go_wp2_with fail
 go_loopw [5, 6] (fun u vj wr => ∃ (j : Nat) (fs : List FormR), vj = .int .i64 j ∧ j ≤ n ∧ fs.length = j ∧ Hid (FrmW wr w1.heap.size u fs) ∧ Hid (∀ f ∈ fs, ∀ ad, f.p.1 = some ad → w1.heap.size ≤ ad.block) ∧ Hid (fs.map FormR.data = (endsOf l).take j) ∧ Below w1.heap.size w1 wr) (fun _ vj _ => n - (intOf vj).toNat)
 case atStart => exact ⟨0, [], rfl, Nat.zero_le _, rfl, FrmW.nil _, (fun f hf => by cases hf), by simp [Hid], Below.refl _ _⟩
 case round =>
  obtain ⟨j, fs, rfl, hj, hfl, hfw, hfr, hda2, hB2⟩ := hrel
  have hB2s := hB2.size
  have hBB2 := HB1.out.trans (hB2.mono HB1.out.size)
  by_cases hltj : j < n
  ·have hj1 : (j : Int) < (n : Int) := by omega
   obtain ⟨b2, off2, h, A2, n2, c2, ws, rfl, hb2w, e0, e1, hlj, hwj⟩ := (HX.out.below hBB2 rr).at_ hltj
   have hm2 := hwj.max
   have hnc2 : n2 ≤ c2 := hwj.2.1
   have h40 : n2 ≤ 40 := by rw [← hwj.len]; exact HL40.out _ (List.mem_of_getElem? hlj)
   have HLJ := hI hlj
   have HW := hI hwj
   have hb1 : Below wr.heap.size wr (wr.alloc (.cells #[.bool h, .slice none 0 0] 77)) := bel
   have hbx : (wr.alloc (.cells #[.bool h, .slice none 0 0] 77)).heap[wr.heap.size]? = some (.cells #[.bool h, .slice none 0 0] 77 (0, 0)) := hpt
   cases h with
   | false =>
    clear hlj hwj
    have hbb : Below wr.heap.size wr ((wr.alloc (.cells #[.bool false, .slice none 0 0] 77)).alloc (.cells #[.bool false, .slice none 0 0] 77)) := bel
    have hz2 : ((wr.alloc (.cells #[.bool false, .slice none 0 0] 77)).alloc (.cells #[.bool false, .slice none 0 0] 77)).heap[wr.heap.size + 1]? = some (.cells #[.bool false, .slice none 0 0] 77 (0, 0)) := hpt
    have HFW1 := hI (hfw.out.below hbb)
    have HAW : Hid (Away u5 ((wr.alloc (.cells #[.bool false, .slice none 0 0] 77)).alloc (.cells #[.bool false, .slice none 0 0] 77)) (none, 0, 0, [])) := ⟨Cells.nil _ _, fun ad h => by cases h⟩
    have HDN : Hid ((fs ++ [(⟨false, (none, 0, 0, [])⟩ : FormR)]).map FormR.data = (endsOf l).take (j + 1)) := by show _ = _; rw [take_snoc' (endsOf l) j _ (ends_at HLJ.out), List.map_append, hda2.out]; rfl
    have HFR : Hid (∀ f' ∈ fs ++ [(⟨false, (none, 0, 0, [])⟩ : FormR)], ∀ ad, f'.p.1 = some ad → w1.heap.size ≤ ad.block) := fun f' hf' ad had => by
     rcases List.mem_append.1 hf' with h1 | h1
     ·exact hfr.out f' h1 ad had
     ·obtain rfl : f' = ⟨false, (none, 0, 0, [])⟩ := by simpa using h1
      cases had
    have HB6 := hI (hB2.trans (hbb.mono hB2s))
    have hfl' : fs.length ≤ 16 := by omega
    have HFL := hI hfl
    have HZ2 := hI hz2
    clear hbb hb1 hbx hfl hz2
    go_wp2_with (at_builtin; refine append_frm rfl (.tmp 37) (.tmp 39) rfl w1.heap.size u5 fs.length (fs.flatMap FormR.cells) rfl HFW1.out.own ⟨wr.heap.size + 1, 0, none⟩ 1 ⟨false, (none, 0, 0, [])⟩ rfl (form_cells HZ2.out) ?hl ?hz ?hc)
    case hl => omega
    case hz => simpa using HB6.out.size
    case hc =>
     intro v9 X9 hown9 hg9 hat9
     have HFW9 := hI (HFW1.out.push HAW.out hown9 hg9 (by simpa using hat9))
     have hB9 : Below w1.heap.size w1 X9 := own_below HB6.out HFW1.out.own hg9 rr HB6.out.size
     clear hown9 hg9 hat9
     go_wp2
     go_roundw
     case rel => exact ⟨j + 1, _, by go_num, by omega, by rw [List.length_append, HFL.out]; rfl, HFW9.out, HFR.out, HDN.out, hB9⟩
     case measure => simp [intOf]; omega
   | true =>
    have hsn : sl ≤ n2 := by rw [HSL.out, ← hwj.len]; exact stem_short (List.mem_of_getElem? hlj) rfl
    have hsn' : (sl : Int) ≤ (n2 : Int) := by omega
    have hsc' : (sl : Int) ≤ (c2 : Int) := by omega
    have hs0' : (0 : Int) ≤ (sl : Int) := by omega
    have hsc : sl ≤ c2 := by omega
    have hnc' : (n2 : Int) ≤ (c2 : Int) := by omega
    clear hlj hwj
    by_cases hcs : c2 = sl
    ·have HDR : Hid (IsWord (wr.alloc (.cells #[.bool true, .slice none 0 0] 77)) A2 (n2 - sl) 0 (ws.drop sl)) := by have := IsWord.drop (HW.out.below hb1 rr) hsn; rw [if_pos hcs, hcs, Nat.sub_self] at this; exact this
     go_wp2_with fail
     generalize hV1 : (wr.alloc (.cells #[.bool true, .slice none 0 0] 77)) = V1 at *
     clear hV1
     obtain ⟨bx, hbxe⟩ : ∃ bx, bx = wr.heap.size := ⟨_, rfl⟩
     rw [← hbxe] at hbx ⊢
     have hbxw : wr.heap.size ≤ bx := Nat.le_of_eq hbxe.symm
     have hbxV := lt_of_block hbx
     clear hbxe
     refine (r2Copy_c _ _ _ (ws.drop sl) V1 HDR.out (by omega)).mono ?_
     rintro e w7 ⟨A7, m, c7, rfl, hw7, hb7, hf7⟩
     have hx7 := (hb7.block bx hbxV).trans hbx
     have m0 : w7.cell? ⟨bx, 0, none⟩ = some (.bool true) := cell_at_heap hx7 rfl
     have m1 : w7.frozen? ⟨bx, 1, none⟩ = false := frozen_of_row w7 bx 1 _ _ hx7
     have m2 : w7.cell? ⟨bx, 1, none⟩ = some (.slice none 0 0) := cell_at_heap hx7 rfl
     have hbw7 : Below wr.heap.size wr (w7.setCell ⟨bx, 1, none⟩ (.slice A7 m c7)) := (hb1.trans (hb7.mono hb1.size)).setCell (p := ⟨bx, 1, none⟩) hbxw _
     have hbx8 : (w7.setCell ⟨bx, 1, none⟩ (.slice A7 m c7)).heap[bx]? = some (.cells #[.bool true, .slice A7 m c7] 77 (0, 0)) := heap_setCell_same hx7
     have hkx : Keep (fun k => k = bx) w7 (w7.setCell ⟨bx, 1, none⟩ (.slice A7 m c7)) := (Keep.refl (fun k => k = bx) w7).setCell (p := ⟨bx, 1, none⟩) rfl _
     have hw8 : IsWord (w7.setCell ⟨bx, 1, none⟩ (.slice A7 m c7)) A7 m c7 (ws.drop sl) := hw7.keep hkx fun _ ad had e => by have := hf7 ad had; omega
     have hf8 : ∀ ad, A7 = some ad → wr.heap.size ≤ ad.block := fun ad had => Nat.le_trans hb1.size (hf7 ad had)
     have k0 : (w7.setCell ⟨bx, 1, none⟩ (.slice A7 m c7)).cell? ⟨bx, 0, none⟩ = some (.bool true) := cell_at_heap hbx8 rfl
     have k1 : (w7.setCell ⟨bx, 1, none⟩ (.slice A7 m c7)).cell? ⟨bx, 1, none⟩ = some (.slice A7 m c7) := cell_at_heap hbx8 rfl
     clear hkx hw7 hf7 hx7
     have hba : Below (w7.setCell ⟨bx, 1, none⟩ (.slice A7 m c7)).heap.size (w7.setCell ⟨bx, 1, none⟩ (.slice A7 m c7)) ((w7.setCell ⟨bx, 1, none⟩ (.slice A7 m c7)).alloc (.cells #[.bool true, .slice A7 m c7] 77)) := bel
     have hz2 : ((w7.setCell ⟨bx, 1, none⟩ (.slice A7 m c7)).alloc (.cells #[.bool true, .slice A7 m c7] 77)).heap[w7.heap.size]? = some (.cells #[.bool true, .slice A7 m c7] 77 (0, 0)) := hpt
     have HFW1 := hI (hfw.out.below (hbw7.trans (hba.mono hbw7.size)))
     have HAW : Hid (Away u5 ((w7.setCell ⟨bx, 1, none⟩ (.slice A7 m c7)).alloc (.cells #[.bool true, .slice A7 m c7] 77)) (A7, m, c7, ws.drop sl)) := hfw.out.fresh (q := (A7, m, c7, ws.drop sl)) (hw8.below hba rr) hf8
     have HDN : Hid ((fs ++ [(⟨true, (A7, m, c7, ws.drop sl)⟩ : FormR)]).map FormR.data = (endsOf l).take (j + 1)) := by show _ = _; rw [take_snoc' (endsOf l) j _ (ends_at HLJ.out), List.map_append, hda2.out, ← HSL.out]; rfl
     have HFR : Hid (∀ f' ∈ fs ++ [(⟨true, (A7, m, c7, ws.drop sl)⟩ : FormR)], ∀ ad, f'.p.1 = some ad → w1.heap.size ≤ ad.block) := fun f' hf' ad had => by
      rcases List.mem_append.1 hf' with h1 | h1
      ·exact hfr.out f' h1 ad had
      ·obtain rfl : f' = ⟨true, (A7, m, c7, ws.drop sl)⟩ := by simpa using h1
       exact Nat.le_trans hB2s (hf8 ad had)
     have HB6 : Hid (Below w1.heap.size w1 ((w7.setCell ⟨bx, 1, none⟩ (.slice A7 m c7)).alloc (.cells #[.bool true, .slice A7 m c7] 77))) := hB2.trans ((hbw7.trans (hba.mono hbw7.size)).mono hB2s)
     have hfl' : fs.length ≤ 16 := by omega
     have HFL := hI hfl
     have HZ2 := hI hz2
     clear hba hb1 hfl hz2 hbx8 hw8 hf8 hbw7 hbx hb7
     go_wp2_with (at_builtin; refine append_frm rfl (.tmp 37) (.tmp 39) rfl w1.heap.size u5 fs.length (fs.flatMap FormR.cells) rfl HFW1.out.own ⟨w7.heap.size, 0, none⟩ 1 ⟨true, (A7, m, c7, ws.drop sl)⟩ rfl (form_cells HZ2.out) ?hl ?hz ?hc)
     case hl => omega
     case hz => simpa using HB6.out.size
     case hc =>
      intro v9 X9 hown9 hg9 hat9
      have HFW9 := hI (HFW1.out.push HAW.out hown9 hg9 (by simpa using hat9))
      have hB9 : Below w1.heap.size w1 X9 := own_below HB6.out HFW1.out.own hg9 rr HB6.out.size
      clear hown9 hg9 hat9
      go_wp2
      go_roundw
      case rel => exact ⟨j + 1, _, by go_num, by omega, by rw [List.length_append, HFL.out]; rfl, HFW9.out, HFR.out, HDN.out, hB9⟩
      case measure => simp [intOf]; omega
    ·have HDR : Hid (IsWord (wr.alloc (.cells #[.bool true, .slice none 0 0] 77)) (A2.map fun x => x.add (sl * 2)) (n2 - sl) (c2 - sl) (ws.drop sl)) := by have := IsWord.drop (HW.out.below hb1 rr) hsn; rw [if_neg hcs] at this; exact this
     go_wp2_with fail
     generalize hV1 : (wr.alloc (.cells #[.bool true, .slice none 0 0] 77)) = V1 at *
     clear hV1
     obtain ⟨bx, hbxe⟩ : ∃ bx, bx = wr.heap.size := ⟨_, rfl⟩
     rw [← hbxe] at hbx ⊢
     have hbxw : wr.heap.size ≤ bx := Nat.le_of_eq hbxe.symm
     have hbxV := lt_of_block hbx
     clear hbxe
     refine (r2Copy_c _ _ _ (ws.drop sl) V1 HDR.out (by omega)).mono ?_
     rintro e w7 ⟨A7, m, c7, rfl, hw7, hb7, hf7⟩
     have hx7 := (hb7.block bx hbxV).trans hbx
     have m0 : w7.cell? ⟨bx, 0, none⟩ = some (.bool true) := cell_at_heap hx7 rfl
     have m1 : w7.frozen? ⟨bx, 1, none⟩ = false := frozen_of_row w7 bx 1 _ _ hx7
     have m2 : w7.cell? ⟨bx, 1, none⟩ = some (.slice none 0 0) := cell_at_heap hx7 rfl
     have hbw7 : Below wr.heap.size wr (w7.setCell ⟨bx, 1, none⟩ (.slice A7 m c7)) := (hb1.trans (hb7.mono hb1.size)).setCell (p := ⟨bx, 1, none⟩) hbxw _
     have hbx8 : (w7.setCell ⟨bx, 1, none⟩ (.slice A7 m c7)).heap[bx]? = some (.cells #[.bool true, .slice A7 m c7] 77 (0, 0)) := heap_setCell_same hx7
     have hkx : Keep (fun k => k = bx) w7 (w7.setCell ⟨bx, 1, none⟩ (.slice A7 m c7)) := (Keep.refl (fun k => k = bx) w7).setCell (p := ⟨bx, 1, none⟩) rfl _
     have hw8 : IsWord (w7.setCell ⟨bx, 1, none⟩ (.slice A7 m c7)) A7 m c7 (ws.drop sl) := hw7.keep hkx fun _ ad had e => by have := hf7 ad had; omega
     have hf8 : ∀ ad, A7 = some ad → wr.heap.size ≤ ad.block := fun ad had => Nat.le_trans hb1.size (hf7 ad had)
     have k0 : (w7.setCell ⟨bx, 1, none⟩ (.slice A7 m c7)).cell? ⟨bx, 0, none⟩ = some (.bool true) := cell_at_heap hbx8 rfl
     have k1 : (w7.setCell ⟨bx, 1, none⟩ (.slice A7 m c7)).cell? ⟨bx, 1, none⟩ = some (.slice A7 m c7) := cell_at_heap hbx8 rfl
     clear hkx hw7 hf7 hx7
     have hba : Below (w7.setCell ⟨bx, 1, none⟩ (.slice A7 m c7)).heap.size (w7.setCell ⟨bx, 1, none⟩ (.slice A7 m c7)) ((w7.setCell ⟨bx, 1, none⟩ (.slice A7 m c7)).alloc (.cells #[.bool true, .slice A7 m c7] 77)) := bel
     have hz2 : ((w7.setCell ⟨bx, 1, none⟩ (.slice A7 m c7)).alloc (.cells #[.bool true, .slice A7 m c7] 77)).heap[w7.heap.size]? = some (.cells #[.bool true, .slice A7 m c7] 77 (0, 0)) := hpt
     have HFW1 := hI (hfw.out.below (hbw7.trans (hba.mono hbw7.size)))
     have HAW : Hid (Away u5 ((w7.setCell ⟨bx, 1, none⟩ (.slice A7 m c7)).alloc (.cells #[.bool true, .slice A7 m c7] 77)) (A7, m, c7, ws.drop sl)) := hfw.out.fresh (q := (A7, m, c7, ws.drop sl)) (hw8.below hba rr) hf8
     have HDN : Hid ((fs ++ [(⟨true, (A7, m, c7, ws.drop sl)⟩ : FormR)]).map FormR.data = (endsOf l).take (j + 1)) := by show _ = _; rw [take_snoc' (endsOf l) j _ (ends_at HLJ.out), List.map_append, hda2.out, ← HSL.out]; rfl
     have HFR : Hid (∀ f' ∈ fs ++ [(⟨true, (A7, m, c7, ws.drop sl)⟩ : FormR)], ∀ ad, f'.p.1 = some ad → w1.heap.size ≤ ad.block) := fun f' hf' ad had => by
      rcases List.mem_append.1 hf' with h1 | h1
      ·exact hfr.out f' h1 ad had
      ·obtain rfl : f' = ⟨true, (A7, m, c7, ws.drop sl)⟩ := by simpa using h1
       exact Nat.le_trans hB2s (hf8 ad had)
     have HB6 : Hid (Below w1.heap.size w1 ((w7.setCell ⟨bx, 1, none⟩ (.slice A7 m c7)).alloc (.cells #[.bool true, .slice A7 m c7] 77))) := hB2.trans ((hbw7.trans (hba.mono hbw7.size)).mono hB2s)
     have hfl' : fs.length ≤ 16 := by omega
     have HFL := hI hfl
     have HZ2 := hI hz2
     clear hba hb1 hfl hz2 hbx8 hw8 hf8 hbw7 hbx hb7
     go_wp2_with (at_builtin; refine append_frm rfl (.tmp 37) (.tmp 39) rfl w1.heap.size u5 fs.length (fs.flatMap FormR.cells) rfl HFW1.out.own ⟨w7.heap.size, 0, none⟩ 1 ⟨true, (A7, m, c7, ws.drop sl)⟩ rfl (form_cells HZ2.out) ?hl ?hz ?hc)
     case hl => omega
     case hz => simpa using HB6.out.size
     case hc =>
      intro v9 X9 hown9 hg9 hat9
      have HFW9 := hI (HFW1.out.push HAW.out hown9 hg9 (by simpa using hat9))
      have hB9 : Below w1.heap.size w1 X9 := own_below HB6.out HFW1.out.own hg9 rr HB6.out.size
      clear hown9 hg9 hat9
      go_wp2
      go_roundw
      case rel => exact ⟨j + 1, _, by go_num, by omega, by rw [List.length_append, HFL.out]; rfl, HFW9.out, HFR.out, HDN.out, hB9⟩
      case measure => simp [intOf]; omega
  ·have hj1 : ¬ ((j : Int) < (n : Int)) := by omega
   have HDF : Hid (fs.map FormR.data = endsOf l) := by show _ = _; rw [hda2.out, List.take_of_length_le (by rw [ends_len, HX.out.len]; omega)]
   obtain ⟨A8, c8, hv8⟩ := own_form hfw.out.own
   subst hv8
   have hip := hfw.out.forms rfl
   rw [HDF.out, hfl] at hip
   have HIP := hI hip; clear hip
   go_wp2
   go_ret
   exact ⟨A8, _, c8, rfl, HIP.out, hBB2⟩
theorem r29Ends_c (A : Option Addr) (n c : Nat) (T : List (List Frm)) (r : Int) (w : World) (hx : IsPar w A n c T) (hu : ParU T) (hr : -9223372036854775808 ≤ r ∧ r ≤ 9223372036854775807) :
  Calls Tryz.prog 46 #[.slice A n c, .int .i64 r] w fun e w' => ∃ A n c, e = .returned (.tuple #[.slice A n c, .int .i64 (pEndsM T r).1]) ∧ IsForms w' A n c (pEndsM T r).2 ∧ Below w.heap.size w w' := by
 have HX := hI hx; clear hx
 have HU := hI hu; clear hu
 go_enter Tryz.func46, Tryz.ntmps46
 go_wp2_with fail
 refine (r29Stem_c A n c T r w HX.out HU.out hr).mono ?_
 rintro e w1 ⟨A3, n3, c3, rfl, _, hB1, _⟩
 obtain ⟨er, her⟩ : ∃ er, er = (pStemM T r).1 := ⟨_, rfl⟩
 rw [← her]
 by_cases h0 : er = 0
 case neg =>
  have h1 : (er != 0) = true := by simpa using h0
  have HM : Hid (pEndsM T r = (er, [])) := by show _ = _; unfold pEndsM; rw [← her, if_pos h0]
  clear h0 her
  go_wp2
  go_ret2
  exact ⟨none, 0, 0, by rw [HM.out]; rfl, by rw [HM.out]; exact IsForms.nil _, hB1⟩
 have h1 : (er != 0) = false := by simpa using h0
 have hse : (pStemM T r).1 = 0 := her.symm.trans h0
 have HM : Hid (pEndsM T r = (0, endsOf (lineR T r))) := by show _ = _; unfold pEndsM; rw [if_neg (by simpa using hse)]
 obtain ⟨hpe, hr0, hrn⟩ := line_in (stem_good hse).1
 rw [HX.out.len] at hrn
 obtain ⟨k, rfl⟩ : ∃ k : Nat, r = k := ⟨r.toNat, by omega⟩
 clear h0 her hse hr hr0
 have hlt : k < n := by omega
 obtain ⟨b, off, A1, n1, c1, l, rfl, hb, hc0, hlk, hfl⟩ := (HX.out.below hB1 rr).at_ hlt
 rw [row_at hlk] at HM
 have HROW := hI (par_row hpe (List.mem_of_getElem? hlk))
 have HF := hI hfl
 clear hlk hpe
 have hn16 : n1 ≤ 16 := by rw [← hfl.len]; exact HROW.out.1
 clear hfl
 go_wp2_with fail
 refine (r29ends_c A1 n1 c1 l w1 HF.out HROW.out.2.1 hn16).mono ?_
 rintro e w2 ⟨A2, n2, c2, rfl, hw2, hb2⟩
 have hB2 := hB1.trans (hb2.mono hB1.size)
 have HW2 := hI hw2
 clear hb2 hw2
 go_wp2
 go_ret2
 exact ⟨A2, n2, c2, by rw [HM.out]; rfl, by rw [HM.out]; exact HW2.out, hB2⟩
end Go.Proofs.YtcpcojgmmpnkoaaGreatDoor

/-
  points.New: the map, as it is laid first.
-/
import Derived.Test.YtaglfmlgbcmakaaGreatDoorH06
set_option linter.all false
set_option maxRecDepth 100000
set_option maxHeartbeats 4000000
namespace Go.Proofs.YtaglfmlgbcmakaaGreatDoor
open Go.RowKit Go.Shelf Go.Maps Go.WideMaps
theorem ends_info : (Tryz.prog.info? 110).map (fun i => (i.zero, i.size, i.bytes)) = some (some (.slice none 0 0), 1, 24) := by kernel_rfl
structure Mk (B b mb q n : Nat) (An : Option Addr) (cn : Nat) (Ar : Option Addr) (cr : Nat) (rs : List RoadI) (W : World) : Prop where
 lo : B ≤ b ∧ B ≤ mb ∧ B ≤ q
 blk : W.heap[b]? = some (.cells #[.slice An n cn, .map (some mb), .slice Ar rs.length cr, .slice (some ⟨q, 0, none⟩) n n] 99 (0, 0))
 rd : W.ownsRow B 64 3 (.slice Ar rs.length cr) rs.length (rs.flatMap roadC)
 mp : W.ownsMap Tryz.prog 9 (plainElem (H := Unit) Tryz.prog 3) mb 0 (.map [])
 nr : W.heap[q]? = some (.cells (rowV n fun _ => .slice none 0 0) 110 (0, 0))
def phiN (B n : Nat) (N : Option Addr × Nat × List ByteArray) (R : Option Addr × Nat × List RoadI) (i : Nat) (v : Value) (W : World) : Prop := match i with
 | 0 => v = .slice N.1 n N.2.1
 | 1 => ∃ A c, v = .slice A n c
 | 2 => ∃ mb, v = .map (some mb) ∧ B ≤ mb ∧ W.ownsMap Tryz.prog 9 (plainElem (H := Unit) Tryz.prog 3) mb 0 (.map [])
 | 3 => v = .slice R.1 R.2.2.length R.2.1
 | 4 => ∃ A c, v = .slice A R.2.2.length c ∧ W.ownsRow B 64 3 (.slice A R.2.2.length c) R.2.2.length (R.2.2.flatMap roadC)
 | 5 => v = .int .i64 (n : Int)
 | 6 => ∃ q, v = .slice (some ⟨q, 0, none⟩) n n ∧ B ≤ q ∧ W.heap[q]? = some (.cells (rowV n fun _ => .slice none 0 0) 110 (0, 0))
 | 7 => ∃ An cn mb Ar cr q, v = .agg #[.slice An n cn, .map (some mb), .slice Ar R.2.2.length cr, .slice (some ⟨q, 0, none⟩) n n] ∧ B ≤ mb ∧ W.ownsMap Tryz.prog 9 (plainElem (H := Unit) Tryz.prog 3) mb 0 (.map []) ∧ W.ownsRow B 64 3 (.slice Ar R.2.2.length cr) R.2.2.length (R.2.2.flatMap roadC) ∧
   B ≤ q ∧ W.heap[q]? = some (.cells (rowV n fun _ => .slice none 0 0) 110 (0, 0))
 | 8 => ∃ b An cn mb Ar cr q, v = .pointer (some ⟨b, 0, none⟩) ∧ Mk B b mb q n An cn Ar cr R.2.2 W
 | 9 => ∃ b An cn mb Ar cr q, v = .pointer (some ⟨b, 0, none⟩) ∧ Mk B b mb q n An cn Ar cr R.2.2 W
 | _ => True
theorem own_mapU {W W' : World} {bm m : Nat} {D : DataW Unit} (h : W.ownsMap Tryz.prog 9 (plainElem (H := Unit) Tryz.prog 3) bm m D) (hb : Below W.heap.size W W') : W'.ownsMap Tryz.prog 9 (plainElem (H := Unit) Tryz.prog 3) bm m D := by
 have hl := h.lt
 obtain ⟨es, clock, h1, h2⟩ := h
 exact ⟨es, clock, (hb.block bm hl).trans h1, h2⟩
theorem own_b {w w' : World} {B : Nat} {e : TypeId} {sz n : Nat} {v : Value} {xs : List Value} (h : w.ownsRow B e sz v n xs) (hb : Below w.heap.size w w') : w'.ownsRow B e sz v n xs := own_heap h fun k e => hb.block k (h.lt k e).2
theorem Mk.below {B b mb q n : Nat} {An : Option Addr} {cn : Nat} {Ar : Option Addr} {cr : Nat} {rs : List RoadI} {W W' : World} (h : Mk B b mb q n An cn Ar cr rs W) (hb : Below W.heap.size W W') : Mk B b mb q n An cn Ar cr rs W' :=
 ⟨h.lo, (hb.block b (lt_of_block h.blk)).trans h.blk, own_b h.rd hb, own_mapU h.mp hb, (hb.block q (lt_of_block h.nr)).trans h.nr⟩
theorem phiN_below {B n : Nat} {N : Option Addr × Nat × List ByteArray} {R : Option Addr × Nat × List RoadI} {i : Nat} {v : Value} {w w' : World} (h : phiN B n N R i v w) (hb : Below w.heap.size w w') : phiN B n N R i v w' := by
 unfold phiN at *
 split at h
 ·exact h
 ·exact h
 ·obtain ⟨mb, e, h1, h2⟩ := h; exact ⟨mb, e, h1, own_mapU h2 hb⟩
 ·exact h
 ·obtain ⟨A, c, e, h⟩ := h; exact ⟨A, c, e, own_b h hb⟩
 ·exact h
 ·obtain ⟨q, e, h1, h2⟩ := h; exact ⟨q, e, h1, (hb.block q (lt_of_block h2)).trans h2⟩
 ·obtain ⟨An, cn, mb, Ar, cr, q, e, h1, h2, h3, h4, h5⟩ := h; exact ⟨An, cn, mb, Ar, cr, q, e, h1, own_mapU h2 hb, own_b h3 hb, h4, (hb.block q (lt_of_block h5)).trans h5⟩
 ·obtain ⟨b, An, cn, mb, Ar, cr, q, e, h⟩ := h; exact ⟨b, An, cn, mb, Ar, cr, q, e, h.below hb⟩
 ·obtain ⟨b, An, cn, mb, Ar, cr, q, e, h⟩ := h; exact ⟨b, An, cn, mb, Ar, cr, q, e, h.below hb⟩
 ·trivial
theorem noDst_spec {ops : Array Oper} {s : Nat} (h : (ops.all fun o => o.dst != some s) = true) : ∀ j, dstOf ops j ≠ some s := by
 intro j hj
 unfold dstOf at hj
 cases ho : ops[j]? with
 | none => rw [ho] at hj; cases hj
 | some o =>
  rw [ho] at hj
  have h1 := (Array.all_eq_true.1 h) j (Array.getElem?_eq_some_iff.1 ho).1
  rw [(Array.getElem?_eq_some_iff.1 ho).2] at h1
  have h2 : o.dst = some s := hj
  simp [h2] at h1
theorem names_at {names : List ByteArray} {k : Nat} {s : ByteArray} (h : names[k]? = some s) : namesE (names.take k) (names.drop k) = if namedM s = false then 15 else if (names.take k).any (fun x => decide (x = s)) then 6 else namesE (names.take (k + 1)) (names.drop (k + 1)) := by
 have hk := (List.getElem?_eq_some_iff.1 h).1
 have e1 : names.drop k = s :: names.drop (k + 1) := by
  rw [List.drop_eq_getElem_cons hk, (List.getElem?_eq_some_iff.1 h).2]
 have e2 : names.take (k + 1) = names.take k ++ [s] := by rw [List.take_add_one, h]; rfl
 rw [e1, e2]; rfl
theorem key_str (s : ByteArray) (hs : s.size ≤ 24) : keyOf Tryz.prog 9 (.string s) = some (keyB s) := by
 have h := keyOf_string_mk (P := Tryz.prog) (k := 9) (s := s) Tryz.underlying9 (by unfold maxLen; omega)
 rw [h]; rfl
def RetNew (w : World) (names : List ByteArray) (rs : List RoadI) (e : Ending) (w' : World) : Prop :=
 ((newE names rs ≠ 0 ∧ e = .returned (.tuple #[.pointer none, .int .i64 (newE names rs)])) ∨ (newE names rs = 0 ∧ ∃ b, e = .returned (.tuple #[.pointer (some ⟨b, 0, none⟩), .int .i64 0]) ∧ MapAt w' b names.length (rs.map toRoad))) ∧ Below w.heap.size w w'
theorem RetNew.bad {w w' : World} {names : List ByteArray} {rs : List RoadI} {er : Int} (h : newE names rs = er) (h0 : er ≠ 0) (hb : Below w.heap.size w w') : RetNew w names rs (.returned (.tuple #[.pointer none, .int .i64 er])) w' := by
 subst h; exact ⟨.inl ⟨h0, rfl⟩, hb⟩
theorem new_c (An : Option Addr) (nn cn : Nat) (names : List ByteArray) (Ar : Option Addr) (nr cr : Nat) (rs : List RoadI) (w : World) (hn : IsStrs w An nn cn names) (hr : IsRoads w Ar nr cr rs) :
  Calls Tryz.prog 15 #[.slice An nn cn, .slice Ar nr cr] w (RetNew w names rs) := by
 have hmn : nn ≤ cn ∧ cn ≤ 9223372036854775807 := by have h1 := hn.2.1; have h2 := hn.2.2.1; unfold maxLen at h2; omega
 have hmr : nr ≤ cr ∧ cr ≤ 9223372036854775807 := by have h1 := hr.1.2.1; have h2 := hr.1.2.2.1; unfold maxLen at h2; omega
 have HN := hI hn; have HR := hI hr
 have HLN : Hid (names.length = nn) := hn.len
 have HLR : Hid (rs.length = nr) := hr.2
 clear hn hr
 go_enter Tryz.func15, Tryz.ntmps15
 by_cases h1 : nn > 128
 ·have h1' : (nn : Int) > 128 := by omega
  have HV : Hid (newE names rs = 12) := by show _ = _; unfold newE; rw [if_pos (.inl (by rw [HLN.out]; exact h1))]
  go_wp2
  go_ret2
  exact RetNew.bad HV.out (by decide) (Below.refl _ _)
 by_cases h2 : nr > 512
 ·have h1' : ¬ (128 : Int) < (nn : Int) := by omega
  have h2' : (nr : Int) > 512 := by omega
  have HV : Hid (newE names rs = 12) := by show _ = _; unfold newE; rw [if_pos (.inr (by rw [HLR.out]; exact h2))]
  go_wp2
  go_ret2
  exact RetNew.bad HV.out (by decide) (Below.refl _ _)
 have h1' : ¬ (128 : Int) < (nn : Int) := by omega
 have h2' : ¬ (512 : Int) < (nr : Int) := by omega
 have HV : Hid (newE names rs = if namesE [] names ≠ 0 then namesE [] names else roadsE names.length [] rs) := by show _ = _; unfold newE; rw [if_neg (by rw [HLN.out, HLR.out]; omega)]
 go_wp2_with fail
 refine region_inv (by kernel_rfl) (by kernel_rfl) (phiN w.heap.size nn (An, cn, names) (Ar, cr, rs)) _ w (fun j v w w' h hb => phiN_below h hb) ?hstep ?hrest
 case hstep =>
  intro i o ho a w' hs hb
  have hi10 : i < 10 := (Array.getElem?_eq_some_iff.1 ho).1
  have hi : i = 0 ∨ i = 1 ∨ i = 2 ∨ i = 3 ∨ i = 4 ∨ i = 5 ∨ i = 6 ∨ i = 7 ∨ i = 8 ∨ i = 9 := by omega
  clear hi10
  have hbs := hb.size
  rcases hi with rfl | rfl | rfl | rfl | rfl | rfl | rfl | rfl | rfl | rfl
  ·simp only [List.getElem?_toArray, List.getElem?_cons_zero, List.getElem?_cons_succ, Option.some.injEq] at ho
   have hq := hs.2.1 0 (noDst_spec (by kernel_rfl))
   have e1 : a.eval (.tmp 0) = .slice An nn cn := by simp [Act.eval, hq]
   subst ho
   unfold Oper.wp
   go_simp
   exact ⟨_, rfl, rfl, Below.refl _ _⟩
  ·simp only [List.getElem?_toArray, List.getElem?_cons_zero, List.getElem?_cons_succ, Option.some.injEq] at ho
   obtain ⟨v0, hv0, hat0⟩ := hs.1 0 (by rw [← ho]; exact ⟨_, Array.mem_of_getElem? (i := 0) rfl, rfl, rfl⟩)
   have hs0 := hat0 25 (by rfl) (by simp)
   obtain rfl : v0 = .slice An nn cn := hv0
   have e1 : a.eval (.tmp 25) = .slice An nn cn := by simp [Act.eval, hs0]
   subst ho
   unfold Oper.wp
   go_simp
   refine (cloneStr_c An nn cn names w' (HN.out.below hb rr) (by omega)).mono ?_
   rintro e w2 ⟨v, rfl, ho2, hb2⟩
   obtain ⟨A, c, rfl⟩ := own_form ho2
   exact ⟨_, rfl, ⟨_, _, rfl⟩, hb2⟩
  ·simp only [List.getElem?_toArray, List.getElem?_cons_zero, List.getElem?_cons_succ, Option.some.injEq] at ho
   subst ho
   unfold Oper.wp
   have hmm := @run_makeMap Tryz.prog
   go_simp
   exact ⟨_, rfl, ⟨_, rfl, hbs, World.ownsMap_made w' _ _ _⟩, bel⟩
  ·simp only [List.getElem?_toArray, List.getElem?_cons_zero, List.getElem?_cons_succ, Option.some.injEq] at ho
   have hq := hs.2.1 1 (noDst_spec (by kernel_rfl))
   have e1 : a.eval (.tmp 1) = .slice Ar nr cr := by simp [Act.eval, hq]
   subst ho
   unfold Oper.wp
   go_simp
   exact ⟨_, rfl, by show Value.slice Ar nr cr = .slice Ar rs.length cr; rw [HLR.out], Below.refl _ _⟩
  ·simp only [List.getElem?_toArray, List.getElem?_cons_zero, List.getElem?_cons_succ, Option.some.injEq] at ho
   obtain ⟨v3, hv3, hat3⟩ := hs.1 3 (by rw [← ho]; exact ⟨_, Array.mem_of_getElem? (i := 0) rfl, rfl, rfl⟩)
   have hs3 := hat3 28 (by rfl) (by simp)
   obtain rfl : v3 = .slice Ar rs.length cr := hv3
   have e1 : a.eval (.tmp 28) = .slice Ar rs.length cr := by simp [Act.eval, hs3]
   have hr2 := HR.out
   rw [← HLR.out] at hr2
   subst ho
   unfold Oper.wp
   go_simp
   refine (cloneRoad_c Ar rs.length cr rs w' (hr2.below hb rr) (by rw [HLR.out]; omega)).mono ?_
   rintro e w2 ⟨v, rfl, ho2, hb2⟩
   obtain ⟨A, c, rfl⟩ := own_form ho2
   exact ⟨_, rfl, ⟨A, c, rfl, own_base ho2 hbs⟩, hb2⟩
  ·simp only [List.getElem?_toArray, List.getElem?_cons_zero, List.getElem?_cons_succ, Option.some.injEq] at ho
   have hq := hs.2.1 6 (noDst_spec (by kernel_rfl))
   have e1 : a.eval (.tmp 6) = .int .i64 (nn : Int) := by simp [Act.eval, hq]
   subst ho
   unfold Oper.wp
   go_simp
   exact ⟨_, rfl, rfl, Below.refl _ _⟩
  ·simp only [List.getElem?_toArray, List.getElem?_cons_zero, List.getElem?_cons_succ, Option.some.injEq] at ho
   obtain ⟨v5, hv5, hat5⟩ := hs.1 5 (by rw [← ho]; exact ⟨_, Array.mem_of_getElem? (i := 0) rfl, rfl, rfl⟩)
   have hs5 := hat5 30 (by rfl) (by simp)
   obtain rfl : v5 = .int .i64 (nn : Int) := hv5
   have e1 : a.eval (.tmp 30) = .int .i64 (nn : Int) := by simp [Act.eval, hs5]
   have hmk := fun w => run_make_row' (P := Tryz.prog) 97 110 (.slice none 0 0) 24 Tryz.underlying97 ends_info rfl .i64 .i64 nn (by omega) (by omega) w
   have hnm : nn ≤ maxLen := by unfold maxLen; omega
   subst ho
   unfold Oper.wp
   simp only [hmk]
   go_simp
   exact ⟨_, rfl, ⟨_, rfl, hbs, by rw [made_rowV]; exact heap_new_at rfl⟩, bel⟩
  ·simp only [List.getElem?_toArray, List.getElem?_cons_zero, List.getElem?_cons_succ, Option.some.injEq] at ho
   obtain ⟨v1, hv1, hat1⟩ := hs.1 1 (by rw [← ho]; exact ⟨_, Array.mem_of_getElem? (i := 0) rfl, rfl, rfl⟩)
   have hs1 := hat1 26 (by rfl) (by simp)
   obtain ⟨v2, hv2, hat2⟩ := hs.1 2 (by rw [← ho]; exact ⟨_, Array.mem_of_getElem? (i := 1) rfl, rfl, rfl⟩)
   have hs2 := hat2 27 (by rfl) (by simp)
   obtain ⟨v4, hv4, hat4⟩ := hs.1 4 (by rw [← ho]; exact ⟨_, Array.mem_of_getElem? (i := 2) rfl, rfl, rfl⟩)
   have hs4 := hat4 29 (by rfl) (by simp)
   obtain ⟨v6, hv6, hat6⟩ := hs.1 6 (by rw [← ho]; exact ⟨_, Array.mem_of_getElem? (i := 3) rfl, rfl, rfl⟩)
   have hs6 := hat6 31 (by rfl) (by simp)
   obtain ⟨A1, c1, rfl⟩ := hv1
   obtain ⟨mb, rfl, hmb, hom⟩ := hv2
   obtain ⟨A4, c4, rfl, ho4⟩ := hv4
   obtain ⟨q, rfl, hqb, hqc⟩ := hv6
   have e1 : a.eval (.tmp 26) = .slice A1 nn c1 := by simp [Act.eval, hs1]
   have e2 : a.eval (.tmp 27) = .map (some mb) := by simp [Act.eval, hs2]
   have e3 : a.eval (.tmp 29) = .slice A4 rs.length c4 := by simp [Act.eval, hs4]
   have e4 : a.eval (.tmp 31) = .slice (some ⟨q, 0, none⟩) nn nn := by simp [Act.eval, hs6]
   subst ho
   unfold Oper.wp
   go_simp
   exact ⟨_, rfl, ⟨_, _, _, _, _, _, rfl, hmb, hom, ho4, hqb, hqc⟩, Below.refl _ _⟩
  ·simp only [List.getElem?_toArray, List.getElem?_cons_zero, List.getElem?_cons_succ, Option.some.injEq] at ho
   obtain ⟨v7, hv7, hat7⟩ := hs.1 7 (by rw [← ho]; exact ⟨_, Array.mem_of_getElem? (i := 0) rfl, rfl, rfl⟩)
   have hs7 := hat7 32 (by rfl) (by simp)
   obtain ⟨A1, c1, mb, A4, c4, q, rfl, hmb, hom, ho4, hqb, hqc⟩ := hv7
   have e1 : a.eval (.tmp 32) = .agg #[.slice A1 nn c1, .map (some mb), .slice A4 rs.length c4, .slice (some ⟨q, 0, none⟩) nn nn] := by simp [Act.eval, hs7]
   subst ho
   unfold Oper.wp
   go_simp
   have hz : Below w'.heap.size w' (w'.alloc (.cells #[.slice A1 nn c1, .map (some mb), .slice A4 rs.length c4, .slice (some ⟨q, 0, none⟩) nn nn] 99)) := (Below.refl _ w').alloc rr _
   exact ⟨_, rfl, ⟨w'.heap.size, A1, c1, mb, A4, c4, q, rfl, ⟨hbs, hmb, hqb⟩, heap_new_at rfl, own_b ho4 hz, own_mapU hom hz, (hz.block q (lt_of_block hqc)).trans hqc⟩, hz⟩
  ·simp only [List.getElem?_toArray, List.getElem?_cons_zero, List.getElem?_cons_succ, Option.some.injEq] at ho
   obtain ⟨v8, hv8, hat8⟩ := hs.1 8 (by rw [← ho]; exact ⟨_, Array.mem_of_getElem? (i := 0) rfl, rfl, rfl⟩)
   have hs8 := hat8 33 (by rfl) (by simp)
   obtain ⟨b, A1, c1, mb, A4, c4, q, rfl, hmk⟩ := hv8
   have e1 : a.eval (.tmp 33) = .pointer (some ⟨b, 0, none⟩) := by simp [Act.eval, hs8]
   subst ho
   unfold Oper.wp
   go_simp
   exact ⟨_, rfl, ⟨b, A1, c1, mb, A4, c4, q, rfl, hmk⟩, Below.refl _ _⟩
 case hrest =>
  intro vs W1 hall hB1
  obtain ⟨b, A1, c1, mb, A4, c4, q, e9, hmk⟩ := hall 9 (by decide)
  simp only [putAll, dstOf, List.size_toArray, List.length_cons, List.length_nil, List.getElem?_toArray, List.getElem?_cons_zero, List.getElem?_cons_succ, Option.bind_some, Option.map_some, e9]
  have HMK : Hid (Mk w.heap.size b mb q nn A1 c1 A4 c4 rs W1) := hmk
  have HB1 := hI hB1
  clear hmk hB1 hall e9
  generalize vs 0 = z0, vs 1 = z1, vs 2 = z2, vs 3 = z3, vs 4 = z4, vs 5 = z5, vs 6 = z6, vs 7 = z7, vs 8 = z8
  clear vs
  go_simp
  go_wp2_with fail
  have HS0 : Hid (SeenOK (.map []) []) := seen_none
  have HD0 := hI HMK.out.mp
  go_loopw [36] (fun i wr => ∃ (k : Nat) (D : DataW Unit), k ≤ nn ∧ i = .int .i64 (k : Int) ∧ Hid (wr.ownsMap Tryz.prog 9 (plainElem (H := Unit) Tryz.prog 3) mb k D) ∧ Hid (SeenOK D (names.take k)) ∧ Hid (namesE [] names = namesE (names.take k) (names.drop k)) ∧ Hid (Keep (fun j => j = mb) W1 wr)) (fun i _ => nn - (intOf i).toNat)
  case atStart => exact ⟨0, .map [], Nat.zero_le _, rfl, HD0.out, HS0.out, rfl, Keep.refl _ _⟩
  case round =>
   obtain ⟨k, D, hk, rfl, HD, HS, HE, HK⟩ := hrel
   clear HD0 HS0
   have hWr : Below w.heap.size w wr := HB1.out.trans (HK.out.to_below (fun j e => by have := HMK.out.lo; omega) HB1.out.size)
   have HWr := hI hWr
   clear hWr
   by_cases hlt : k < nn
   ·have hkn : (k : Int) < (nn : Int) := by omega
    obtain ⟨s, hs⟩ : ∃ s, names[k]? = some s := ⟨names[k]'(by rw [HLN.out]; exact hlt), List.getElem?_eq_getElem _⟩
    obtain ⟨ga, oa, hA, hga, hcs⟩ := (HN.out.below HWr.out rr).2.2.2.2 (by omega)
    subst hA
    have hc0 := hcs k (.string s) (by rw [List.getElem?_map, hs]; rfl)
    have HST := hI (names_at hs)
    have HSK : Hid (names.take (k + 1) = names.take k ++ [s]) := by show _ = _; rw [List.take_add_one, hs]; rfl
    clear hcs hs
    by_cases h0 : s.toList = []
    ·have hv : Hid (namedM s = false) := by show _ = _; simp [namedM, h0]
     have hE15 : namesE [] names = 15 := by rw [HE.out, HST.out, if_pos hv.out]
     have HV1 : Hid (newE names rs = 15) := by show _ = _; rw [HV.out, hE15]; rfl
     clear hE15
     go_wp2
     go_ret2
     exact RetNew.bad HV1.out (by decide) HWr.out
    by_cases h24 : s.size ≤ 24
    case neg =>
     have h24' : (s.size : Int) > 24 := by omega
     have h0' : s.toList.isEmpty = false := by simpa using h0
     have hv : Hid (namedM s = false) := by show _ = _; simp [namedM, h24]
     have hE15 : namesE [] names = 15 := by rw [HE.out, HST.out, if_pos hv.out]
     have HV1 : Hid (newE names rs = 15) := by show _ = _; rw [HV.out, hE15]; rfl
     clear hE15
     go_wp2
     go_ret2
     exact RetNew.bad HV1.out (by decide) HWr.out
    have h24' : ¬ (24 : Int) < (s.size : Int) := by omega
    have h0' : s.toList.isEmpty = false := by simpa using h0
    obtain ⟨r, hr⟩ : ∃ r : ByteArray, r = ⟨(Lib.trimS s.data.toList letters).toArray⟩ := ⟨_, rfl⟩
    have HTR := hI (trim_c s wr (by omega))
    rw [← hr] at HTR
    have hnm : namedM s = r.toList.isEmpty := by
     rw [hr, Lib.toList_data ⟨(Lib.trimS s.data.toList letters).toArray⟩]
     simp [namedM, h0', h24]
    have HNM := hI hnm
    clear hnm hr
    have hbm : b ≠ mb := fun e => by
     obtain ⟨es, clock, h1, _⟩ := HMK.out.mp
     have h2 := HMK.out.blk
     rw [e, h1] at h2; cases h2
    go_wp2_with fail
    refine HTR.out.mono ?_
    rintro e w2 ⟨rfl, hb2⟩
    have HB2 := hI (HWr.out.trans (hb2.mono HWr.out.size))
    have HD2 := hI (own_mapU HD.out hb2)
    have HK2 : Hid (Keep (fun j => j = mb) W1 w2) := HK.out.trans (keep_of_below hb2)
    clear hb2 HK HD HWr
    by_cases hrr : r.toList = []
    case neg =>
     have hrr' : r.toList.isEmpty = false := by simpa using hrr
     have hE15 : namesE [] names = 15 := by rw [HE.out, HST.out, if_pos (by rw [HNM.out]; exact hrr')]
     have HV1 : Hid (newE names rs = 15) := by show _ = _; rw [HV.out, hE15]; rfl
     clear hE15
     go_wp2
     go_ret2
     exact RetNew.bad HV1.out (by decide) HB2.out
    have hrr' : r.toList.isEmpty = true := by simpa using hrr
    have cb := cell_at_heap (j := 1) ((HK2.out.block b (lt_of_block HMK.out.blk) hbm).trans HMK.out.blk) rfl
    obtain ⟨v, pz, hlook, -⟩ := HD2.out.look_ok (string_keyed Tryz.underlying9) Tryz.underlying96 (Tryz.zeroValue3 w2) (plainElem_int Tryz.underlying3 (by decide)) (key_str s h24)
    rw [HS.out.2 s] at hlook
    have HNE : Hid (namesE [] names = if (names.take k).any (fun x => decide (x = s)) then 6 else namesE (names.take (k + 1)) (names.drop (k + 1))) := by
     show _ = _
     rw [HE.out, HST.out, if_neg (by rw [HNM.out, hrr']; decide)]
    obtain ⟨tk, htk⟩ : ∃ tk, tk = (names.take k).any (fun x => decide (x = s)) := ⟨_, rfl⟩
    rw [← htk] at hlook HNE
    clear htk
    cases tk with
    | true =>
     have HV1 : Hid (newE names rs = 6) := by show _ = _; rw [HV.out, HNE.out]; rfl
     go_wp2
     go_ret2
     exact RetNew.bad HV1.out (by decide) HB2.out
    | false =>
     obtain ⟨w3, hupd, hm3, hg3⟩ := HD2.out.update (string_keyed Tryz.underlying9) Tryz.underlying96 (show k < maxLen by unfold maxLen; omega) (key_str s h24) (plainElem_int (a := (k : Int)) Tryz.underlying3 (WalkArith.wf_i64 (by omega)))
     have HD3 := hI hm3
     have HK3 : Hid (Keep (fun j => j = mb) W1 w3) := HK2.out.trans ⟨hg3.os, hg3.tape, hg3.output, hg3.size, fun j hj hn => hg3.block j hj (fun e => hn (by injection e))⟩
     have HS3 : Hid (SeenOK (D.put (keyB s) (.lit (.int .i64 (k : Int)))) (names.take (k + 1))) := by show SeenOK _ _; rw [HSK.out]; exact seen_put HS.out
     clear hm3 hg3
     go_wp2_with fail
     refine ⟨⟨k + 1, _, by omega, by go_num, HD3.out, HS3.out, HNE.out, HK3.out⟩, ?_⟩
     simp [intOf]; omega
   ·obtain rfl : k = nn := by omega
    have HE0 : Hid (namesE [] names = 0) := by
     show _ = _; rw [HE.out, List.drop_of_length_le (by rw [HLN.out]; exact rr)]; rfl
    have HV2 : Hid (newE names rs = roadsE k [] rs) := by show _ = _; rw [HV.out, HE0.out, if_neg (by simp), HLN.out]
    clear HV HE HE0 HS HD
    have hqm : q ≠ mb := fun e => by
     obtain ⟨es, clock, h1, _⟩ := HMK.out.mp
     have h2 := HMK.out.nr
     rw [e, h1] at h2; cases h2
    have hbm : b ≠ mb := fun e => by
     obtain ⟨es, clock, h1, _⟩ := HMK.out.mp
     have h2 := HMK.out.blk
     rw [e, h1] at h2; cases h2
    have hbq : b ≠ q := fun e => by
     have h1 := HMK.out.nr
     have h2 := HMK.out.blk
     rw [e, h1] at h2
     injection h2 with h2
     injection h2 with _ h2 _
     revert h2
     decide
    obtain ⟨hlb, hlm, hlq⟩ := HMK.out.lo
    have HN0 : Hid (NearW wr.heap.size q k (fun _ => .slice none 0 0) (fun _ => []) wr) :=
     ⟨Nat.lt_of_lt_of_le (lt_of_block HMK.out.nr) HK.out.size, (HK.out.block q (lt_of_block HMK.out.nr) hqm).trans HMK.out.nr, fun v _ => World.ownsRow_nil _ _ _ _, fun u v _ _ _ i e => (by cases e), rr⟩
    have HBK : Hid (wr.heap[b]? = some (.cells #[.slice A1 k c1, .map (some mb), .slice A4 rs.length c4, .slice (some ⟨q, 0, none⟩) k k] 99 (0, 0))) := (HK.out.block b (lt_of_block HMK.out.blk) hbm).trans HMK.out.blk
    have HRD : Hid (wr.ownsRow w.heap.size 64 3 (.slice A4 rs.length c4) rs.length (rs.flatMap roadC)) := own_heap HMK.out.rd fun i e => HK.out.block i (HMK.out.rd.lt i e).2 (fun e' => by
     obtain ⟨es, clock, h1, _⟩ := HMK.out.mp
     rcases HMK.out.rd.2 with ⟨h2, _⟩ | ⟨g, cap, cur, h2, _, h3, _⟩
     ·rw [h2] at e; cases e
     ·rw [h2] at e
      obtain rfl : g = i := Option.some.inj e
      rw [e', h1] at h3; cases h3)
    have HNQ : Hid (wr.heap[q]? = some (.cells (rowV k fun _ => .slice none 0 0) 110 (0, 0))) := HN0.out.blk
    obtain ⟨WN, hWN⟩ : ∃ WN, WN = wr := ⟨_, rfl⟩
    rw [← hWN] at HN0 HBK HRD HWr HNQ
    have hbW := lt_of_block HBK.out
    go_wp2_with fail
    clear HMK HK
    subst hWN
    go_loopw [72] (fun i wr => ∃ (j : Nat) (val : Nat → Value), j ≤ nr ∧ i = .int .i64 (j : Int) ∧ Hid (NearW WN.heap.size q k val (nearN ((rs.take j).map toRoad)) wr) ∧ Hid (roadsE k [] rs = roadsE k ((rs.take j).map toRoad) (rs.drop j)) ∧ Hid (RoadsOK k ((rs.take j).map toRoad)) ∧ Hid (∀ r ∈ rs.take j, fromRoad (toRoad r) = r) ∧ Hid (Keep (fun i => i = q) WN wr)) (fun i _ => nr - (intOf i).toNat)
    case atStart => exact ⟨0, _, Nat.zero_le _, rfl, HN0.out.eq fun v _ => rfl, rfl, ⟨fun r hr => by simp at hr, by simp⟩, fun r hr => by simp at hr, Keep.refl _ _⟩
    case round =>
     obtain ⟨j, val, hj, rfl, HNW, HE, HOK, HFR, HK⟩ := hrel
     clear HN0
     have hWr : Below w.heap.size w wr := HWr.out.trans (HK.out.to_below (fun i e => by omega) HWr.out.size)
     have HB := hI hWr
     clear hWr
     by_cases hlt : j < nr
     ·have hjn : (j : Int) < (nr : Int) := by omega
      obtain ⟨r, hrj⟩ : ∃ r, rs[j]? = some r := ⟨rs[j]'(by rw [HLR.out]; exact hlt), List.getElem?_eq_getElem _⟩
      obtain ⟨ga, oa, hA, hga, hcs⟩ := (HR.out.below HB.out rr).at_ roadC_len (by decide) hrj
      subst hA
      have HST := hI (roads_at (n := k) (done := (rs.take j).map toRoad) hrj)
      have HTK : Hid (rs.take (j + 1) = rs.take j ++ [r]) := by show _ = _; rw [List.take_add_one, hrj]; rfl
      obtain ⟨ra, rb, rl⟩ := r
      have d0 := hcs 0 _ rfl
      have d1 := hcs 1 _ rfl
      have d2 := hcs 2 _ rfl
      simp only [Nat.add_zero, ← Nat.add_assoc] at d0 d1 d2
      clear hcs hrj
      have HBX : Hid (Below w.heap.size w (wr.alloc (.cells #[.int .i64 ra, .int .i64 rb, .int .i64 rl] 64))) := HB.out.alloc HB.out.size _
      by_cases g1 : min ra rb < 0
      ·have HV3 : Hid (newE names rs = 3) := by show _ = _; rw [HV2.out, HE.out, HST.out, if_pos (.inl g1)]
       go_wp2
       go_ret2
       exact RetNew.bad HV3.out (by decide) HBX.out
      by_cases g2 : (k : Int) ≤ max ra rb
      ·have HV3 : Hid (newE names rs = 3) := by show _ = _; rw [HV2.out, HE.out, HST.out, if_pos (.inr g2)]
       go_wp2
       go_ret2
       exact RetNew.bad HV3.out (by decide) HBX.out
      by_cases g3 : ra = rb
      ·have HV3 : Hid (newE names rs = 9) := by show _ = _; rw [HV2.out, HE.out, HST.out, if_neg (by simp only; omega), if_pos g3]
       have g3' : (ra == rb) = true := by simpa using g3
       clear g3
       go_wp2
       go_ret2
       exact RetNew.bad HV3.out (by decide) HBX.out
      have g3' : (ra == rb) = false := by simpa using g3
      by_cases g4 : rl < 1
      ·have HV3 : Hid (newE names rs = 2) := by show _ = _; rw [HV2.out, HE.out, HST.out, if_neg (by simp only; omega), if_neg g3, if_pos (.inl g4)]
       go_wp2
       go_ret2
       exact RetNew.bad HV3.out (by decide) HBX.out
      by_cases g5 : rl > 1073741824
      ·have HV3 : Hid (newE names rs = 2) := by show _ = _; rw [HV2.out, HE.out, HST.out, if_neg (by simp only; omega), if_neg g3, if_pos (.inr g5)]
       go_wp2
       go_ret2
       exact RetNew.bad HV3.out (by decide) HBX.out
      obtain ⟨a, rfl⟩ : ∃ a : Nat, ra = a := ⟨ra.toNat, by omega⟩
      obtain ⟨c, rfl⟩ : ∃ c : Nat, rb = c := ⟨rb.toNat, by omega⟩
      obtain ⟨l, rfl⟩ : ∃ l : Nat, rl = l := ⟨rl.toNat, by omega⟩
      have hak : a < k := by omega
      have hck : c < k := by omega
      have hac : a ≠ c := by omega
      have hak2 : (a : Int) < (k : Int) := by omega
      have hck2 : (c : Int) < (k : Int) := by omega
      have g5' : ¬ (1073741824 : Int) < (l : Int) := by omega
      have HST2 : Hid (roadsE k [] rs = if ((rs.take j).map toRoad).any (fun s => joinsN s a c) then 6 else roadsE k ((rs.take j).map toRoad ++ [(a, c, l)]) (rs.drop (j + 1))) := by
       show _ = _; rw [HE.out, HST.out, if_neg (by simp only; omega), if_neg g3, if_neg (by simp only; omega)]; rfl
      clear HST HE g3
      go_wp2_with fail
      have kx : (wr.alloc (.cells #[.int .i64 (a : Int), .int .i64 (c : Int), .int .i64 (l : Int)] 64)).heap[wr.heap.size]? = some (.cells #[.int .i64 (a : Int), .int .i64 (c : Int), .int .i64 (l : Int)] 64 (0, 0)) := heap_new_at rfl
      have kb : Below wr.heap.size wr (wr.alloc (.cells #[.int .i64 (a : Int), .int .i64 (c : Int), .int .i64 (l : Int)] 64)) := (Below.refl _ wr).alloc rr _
      obtain ⟨X, hX⟩ : ∃ X, X = wr.heap.size := ⟨_, rfl⟩
      rw [← hX] at kx ⊢
      clear hX
      have HNV := hI (HNW.out.below kb)
      have HKV : Hid (Keep (fun i => i = q) WN (wr.alloc (.cells #[.int .i64 (a : Int), .int .i64 (c : Int), .int .i64 (l : Int)] 64))) := HK.out.trans (keep_of_below kb)
      have HXV := hI kx
      generalize wr.alloc (.cells #[.int .i64 (a : Int), .int .i64 (c : Int), .int .i64 (l : Int)] 64) = V at *
      clear kx kb HNW HK d0 d1 d2
      obtain ⟨Av, cv, hva⟩ := own_form (HNV.out.own a hak)
      have HEN : Hid (IsEnds V Av (nearN ((rs.take j).map toRoad) a).length cv (nearN ((rs.take j).map toRoad) a)) := by
       have h := HNV.out.own a hak
       rw [hva] at h
       exact ⟨Cells.of_own h (by decide), rfl⟩
      obtain ⟨done, hdone⟩ : ∃ done, done = (rs.take j).map toRoad := ⟨_, rfl⟩
      rw [← hdone] at HNV HEN HST2 HOK
      have HDN := hI hdone
      clear hdone
      obtain ⟨na, hna⟩ : ∃ na, na = (nearN done a).length := ⟨_, rfl⟩
      rw [← hna] at HEN
      have cb := cell_at_heap (j := 3) ((HKV.out.block b hbW hbq).trans HBK.out) rfl
      have cx0 := cell_at_heap (j := 0) HXV.out rfl
      have cq := rowV_cell HNV.out.blk hak
      have cq : V.cell? ⟨q, a, none⟩ = some (.slice Av na cv) := by rw [cq, hva, hna, HDN.out]
      clear hna
      refine plain_region (fun W' => W'.cell? ⟨b, 3, none⟩ = some (.slice (some ⟨q, 0, none⟩) k k) ∧ W'.cell? ⟨X, 0, none⟩ = some (.int .i64 (a : Int)) ∧ W'.cell? ⟨q, a, none⟩ = some (.slice Av na cv)) (by kernel_rfl) ⟨cb, cx0, cq⟩ (fun hHeld => ?_)
      (refine' anyT_tk 0 rfl ?_; (try simp only [Act.put, nY, nX])); (refine' anyT_tk 1 rfl ?_; (try simp only [Act.put, nY, nX])); (refine' anyT_tk 2 rfl ?_; (try simp only [Act.put, nY, nX])); (refine' anyT_tk 3 rfl ?_; (try simp only [Act.put, nY, nX])); (refine' anyT_tk 4 rfl ?_; (try simp only [Act.put, nY, nX])); (refine' anyT_tk 5 rfl ?_; (try simp only [Act.put, nY, nX])); (refine' anyT_tk 6 rfl ?_; (try simp only [Act.put, nY, nX])); (refine' anyT_tk 7 rfl ?_; (try simp only [Act.put, nY, nX])); (refine' anyT_tk 8 rfl ?_; (try simp only [Act.put, nY, nX]))
      (refine anyT_sp 9 rfl (fun K' hK' => ?_); simp only [nY]; go_simp)
      have hbd : Below V.heap.size V V.drew := (Below.refl _ _).drew
      have hany := near_any (rs := done) hac
      refine (anyEnd_c Av na cv (nearN done a) 54 #[.pointer (some ⟨X, 0, none⟩)] (fun s => decide ((s.1 : Int) = (c : Int))) V.drew (Recs.below HEN.out hbd rr) (enters_of Tryz.func54 (by kernel_rfl) rfl) (fun W hW s _ => isTo_c s ((a : Int), (c : Int), (l : Int)) X W ((hW.block X (lt_of_block HXV.out)).trans HXV.out))).mono ?_
      rw [show (fun s : Nat × Nat => decide ((s.1 : Int) = (c : Int))) = fun s => decide (s.1 = c) from funext fun s => by by_cases e : s.1 = c <;> simp [e] <;> omega, hany]
      clear hany
      obtain ⟨tt, htt⟩ : ∃ tt, tt = done.any fun s => joinsN s a c := ⟨_, rfl⟩
      rw [← htt] at HST2 ⊢
      have HTT := hI htt
      rintro e U ⟨rfl, hbU⟩
      have hbU' := hbd.trans hbU
      have HNU := hI (HNV.out.below hbU')
      have HKU : Hid (Keep (fun i => i = q) WN U) := HKV.out.trans (keep_of_below hbU')
      have HXU := hI ((hbU'.block X (lt_of_block HXV.out)).trans HXV.out)
      refine hK' _ _ ⟨.inr ⟨(hbU.cell (p := ⟨b, 3, none⟩) (by have := HKV.out.size; show b < _; exact Nat.lt_of_lt_of_le hbW this)).trans hHeld.1, (hbU.cell (p := ⟨X, 0, none⟩) (lt_of_block HXV.out)).trans hHeld.2.1, (hbU.cell (p := ⟨q, a, none⟩) (lt_of_block HNV.out.blk)).trans hHeld.2.2⟩, fun _ => ?_⟩
      clear hK' K' hbU hbU' hbd hHeld htt HEN HNV HKV HXV cb cx0 cq hva
      (try simp only [Act.put, nY, nX])
      (refine anyT_sp 10 rfl (fun K' hK' => ?_); simp only [nY]; go_simp)
      refine hK' _ _ ⟨.inl (by kernel_rfl), fun _ => anyT_done (by kernel_rfl) ?_ _⟩
      clear hK' K'
      cases tt with
      | true =>
       have HV3 : Hid (newE names rs = 6) := by show _ = _; rw [HV2.out, HST2.out]; rfl
       have HBU : Hid (Below w.heap.size w U) := HWr.out.trans (HKU.out.to_below (fun i e => by omega) HWr.out.size)
       go_wp2
       go_ret2
       exact RetNew.bad HV3.out (by decide) HBU.out
      | false =>
       have hl5 : ∀ v, (nearN done v).length ≤ 512 := fun v => by
        have h1 : (nearN done v).length ≤ done.length := List.length_filterMap_le _ _
        have h2 : done.length ≤ j := by rw [HDN.out, List.length_map, List.length_take]; omega
        omega
       obtain ⟨AvA, cvA, hvA⟩ := own_form (HNU.out.own a hak)
       have cbA := cell_at_heap (j := 3) ((HKU.out.block b hbW hbq).trans HBK.out) rfl
       have cx0A := cell_at_heap (j := 0) HXU.out rfl
       have cx1A := cell_at_heap (j := 1) HXU.out rfl
       have cx2A := cell_at_heap (j := 2) HXU.out rfl
       have cqA := rowV_cell HNU.out.blk hak
       rw [hvA] at cqA
       have HSSA : Hid (∀ W' : World, (∀ i, i < U.heap.size → (val a).ownBlock ≠ some i → W'.heap[i]? = U.heap[i]?) → W'.cell? ⟨b, 3, none⟩ = some (.slice (some ⟨q, 0, none⟩) k k) ∧ W'.cell? ⟨X, 0, none⟩ = some (.int .i64 (a : Int)) ∧ W'.cell? ⟨X, 1, none⟩ = some (.int .i64 (c : Int)) ∧ W'.cell? ⟨X, 2, none⟩ = some (.int .i64 (l : Int)) ∧ W'.cell? ⟨q, a, none⟩ = some (.slice AvA ((nearN done) a).length cvA)) := by
        intro W' h
        have hlo : ∀ i, (val a).ownBlock = some i → WN.heap.size ≤ i := fun i e => ((HNU.out.own a hak).lt i e).1
        have hqB := HNU.out.qB
        have hks := HKU.out.size
        have eb := h b (by omega) (fun e => by have := hlo b e; omega)
        have eq := h q (by omega) (fun e => by have := hlo q e; omega)
        have ex := h X (lt_of_block HXU.out) (fun e => by
         rcases (HNU.out.own a hak).2 with ⟨h2, _⟩ | ⟨g, cap, cur, h2, _, h3, _⟩
         ·rw [h2] at e; cases e
         ·rw [h2] at e
          obtain rfl : g = X := Option.some.inj e
          have h4 := HXU.out
          rw [h3] at h4
          injection h4 with h4
          injection h4 with _ h4 _
          revert h4
          decide)
        exact ⟨(cell_beside eb 3).trans cbA, (cell_beside ex 0).trans cx0A, (cell_beside ex 1).trans cx1A, (cell_beside ex 2).trans cx2A, (cell_beside eq a).trans cqA⟩
       go_wp2_with fail
       refine plain_region (fun W' => W'.cell? ⟨b, 3, none⟩ = some (.slice (some ⟨q, 0, none⟩) k k) ∧ W'.cell? ⟨X, 0, none⟩ = some (.int .i64 (a : Int)) ∧ W'.cell? ⟨X, 1, none⟩ = some (.int .i64 (c : Int)) ∧ W'.cell? ⟨X, 2, none⟩ = some (.int .i64 (l : Int)) ∧ W'.cell? ⟨q, a, none⟩ = some (.slice AvA ((nearN done) a).length cvA)) (by kernel_rfl) ⟨cbA, cx0A, cx1A, cx2A, cqA⟩ (fun hHeld => ?_)
       clear cbA cx0A cx1A cx2A cqA
       (refine' anyT_tk 0 rfl ?_; (try simp only [Act.put, nY, nX])); (refine' anyT_tk 1 rfl ?_; (try simp only [Act.put, nY, nX])); (refine' anyT_tk 2 rfl ?_; (try simp only [Act.put, nY, nX])); (refine' anyT_tk 3 rfl ?_; (try simp only [Act.put, nY, nX])); (refine' anyT_tk 4 rfl ?_; (try simp only [Act.put, nY, nX])); (refine' anyT_tk 5 rfl ?_; (try simp only [Act.put, nY, nX])); (refine' anyT_tk 6 rfl ?_; (try simp only [Act.put, nY, nX])); (refine' anyT_tk 7 rfl ?_; (try simp only [Act.put, nY, nX])); (refine' anyT_tk 8 rfl ?_; (try simp only [Act.put, nY, nX])); (refine' anyT_tk 9 rfl ?_; (try simp only [Act.put, nY, nX])); (refine' anyT_tk 10 rfl ?_; (try simp only [Act.put, nY, nX])); (refine' anyT_tk 11 rfl ?_; (try simp only [Act.put, nY, nX])); (refine' anyT_tk 12 rfl ?_; (try simp only [Act.put, nY, nX])); (refine' anyT_tk 13 rfl ?_; (try simp only [Act.put, nY, nX])); (refine' anyT_tk 14 rfl ?_; (try simp only [Act.put, nY, nX])); (refine' anyT_tk 15 rfl ?_; (try simp only [Act.put, nY, nX])); (refine' anyT_tk 16 rfl ?_; (try simp only [Act.put, nY, nX])); (refine' anyT_tk 17 rfl ?_; (try simp only [Act.put, nY, nX])); (refine' anyT_tk 18 rfl ?_; (try simp only [Act.put, nY, nX]))
       clear hHeld
       (refine anyT_sp 19 rfl (fun K' hK' => ?_); simp only [nY]; go_simp)
       have hbdA : Below U.heap.size U U.drew := (Below.refl _ _).drew
       have hzA : ∀ u : Nat, u < 2 → ∀ v, [Value.int .i64 (c : Int), Value.int .i64 (l : Int)][u]? = some v → (U.drew.alloc (.cells #[.int .i64 (c : Int), .int .i64 (l : Int)] 112)).cell? ⟨U.drew.heap.size, u, none⟩ = some v := fun u _ v hv => cell_new_at (by simpa using hv)
       have hB2A : Below U.heap.size U (U.drew.alloc (.cells #[.int .i64 (c : Int), .int .i64 (l : Int)] 112)) := hbdA.alloc hbdA.size _
       have HN2A := hI (HNU.out.below hB2A)
       refine hK' _ _ ⟨.inr (HSSA.out _ fun i h _ => hB2A.block i h), fun _ => ?_⟩
       clear hK' K'
       (try simp only [Act.put, nY, nX])
       have hleA : ((nearN done) a).length ≤ 512 := hl5 a
       obtain ⟨nlA, hnlA⟩ : ∃ x, x = ((nearN done) a).length := ⟨_, rfl⟩
       have o7A := HN2A.out.own a hak
       rw [hvA, ← hnlA] at o7A
       rw [← hnlA] at hleA HSSA ⊢
       have hszA := HN2A.out.sz
       refine anyT_sp 20 rfl (fun K' hK' => ?_)
       rw [if_pos (by rfl)]
       refine wp_append_own_at (.tmp 131) (.tmp 137) 110 rfl WN.heap.size 112 (.agg #[.int .i64 0, .int .i64 0]) 2 16 Tryz.underlying110 end_info rfl (by decide) (.slice AvA nlA cvA) nlA (((nearN done) a).flatMap endC) (by rfl) o7A ⟨U.drew.heap.size, 0, none⟩ 1 1 [.int .i64 (c : Int), .int .i64 (l : Int)] (by rfl) rfl
        (fun u v hv => by
         match u, hv with
         | 0, hv => simpa [Addr.add] using hv
         | 1, hv => simpa [Addr.add] using hv
         | u + 2, hv => simp at hv) (by intro u hu; simp at hu; rcases hu with rfl | rfl <;> rfl) (by unfold maxLen; omega) (by omega) hszA ?_
       intro v' X2 hown hgr _ hat
       have hvvA : val a = .slice AvA nlA cvA := by rw [hvA, hnlA]
       rw [← hvvA] at hgr hat
       have hSA := HSSA.out X2 fun i h1 h2 => (hgr.block i (Nat.lt_of_lt_of_le h1 hB2A.size) (fun e => h2 e.symm)).trans (hB2A.block i h1)
       have hpushA := HN2A.out.push hak (p := (c, l)) (by rw [← hnlA]; exact hown) hgr hat
       refine hK' _ _ ⟨.inr hSA, fun _ => ?_⟩
       clear hK' K'
       have hq9A : X2.heap[q]? = some (.cells (rowV k val) 110 (0, 0)) := (hgr.block q (lt_of_block HN2A.out.blk) (fun e => by have h1 := (HNU.out.own a hak).lt q e.symm; have h2 := HNU.out.qB; omega)).trans HN2A.out.blk
       have ffA : X2.frozen? ⟨q, a, none⟩ = false := by simp [World.frozen?, hq9A]
       have cfA := hSA.2.2.2.2
       have hS9A := hSA
       have HKEA : Hid (Keep (fun i => i = q) WN (X2.setCell ⟨q, a, none⟩ v')) := (((HKU.out.below hB2A rr).mono (S' := fun i => i = q ∨ WN.heap.size ≤ i) fun i e => .inl e).grown hgr (fun i e => .inr ((HNU.out.own a hak).lt i e).1) |>.setCell (p := ⟨q, a, none⟩) (.inl rfl) v').old fun i hi e => e.resolve_right (by omega)
       have HXEA : Hid ((X2.setCell ⟨q, a, none⟩ v').heap[X]? = some (.cells #[.int .i64 (a : Int), .int .i64 (c : Int), .int .i64 (l : Int)] 64 (0, 0))) := by
        refine (Below.heap_setCell _ _ _ _ (by
         intro e
         have h1 := HXU.out
         have h2 := HNU.out.blk
         rw [show X = q from e, h2] at h1
         injection h1 with h1
         injection h1 with _ h1 _
         revert h1
         decide)).trans ((hgr.block X (Nat.lt_of_lt_of_le (lt_of_block HXU.out) hB2A.size) (fun e => ?_)).trans ((hB2A.block X (lt_of_block HXU.out)).trans HXU.out))
        rcases (HNU.out.own a hak).2 with ⟨h2, _⟩ | ⟨g, cap, cur, h2, _, h3, _⟩
        ·rw [h2] at e; cases e
        ·rw [h2] at e
         obtain rfl : X = g := Option.some.inj e
         have h4 := HXU.out
         rw [h3] at h4
         injection h4 with h4
         injection h4 with _ h4 _
         revert h4
         decide
       have HNEA := hI hpushA
       obtain ⟨A9A, c9A, rfl⟩ := own_form hown
       clear hown hgr hat hSA hq9A hpushA hB2A hbdA hzA HSSA o7A hnlA hvA hvvA
       (try simp only [Act.put, nY, nX])
       (refine anyT_sp 21 rfl (fun K' hK' => ?_); simp only [nY]; go_simp)
       refine hK' _ _ ⟨.inr hS9A, fun _ => ?_⟩
       clear hK' K'
       (try simp only [Act.put, nY, nX])
       (refine anyT_sp 22 rfl (fun K' hK' => ?_); simp only [nY]; go_simp)
       refine hK' _ _ ⟨.inl (by kernel_rfl), fun _ => anyT_done (by kernel_rfl) ?_ _⟩
       clear hK' K' ffA cfA hS9A
       generalize X2.setCell ⟨q, a, none⟩ (.slice A9A (nlA + 1) c9A) = Y at *
       obtain ⟨val2, hval2⟩ : ∃ val2 : Nat → Value, val2 = fun u => if u = a then .slice A9A (nlA + 1) c9A else val u := ⟨_, rfl⟩
       obtain ⟨ls2, hls2⟩ : ∃ ls2 : Nat → List (Nat × Nat), ls2 = fun u => if u = a then nearN done a ++ [(c, l)] else nearN done u := ⟨_, rfl⟩
       rw [← hval2, ← hls2] at HNEA
       have hl6 : (ls2 c).length ≤ 512 := by rw [hls2]; simp only [if_neg (Ne.symm hac)]; exact hl5 c
       have HL2 := hI hls2
       clear hval2 hls2 hl5 HNU HKU HXU HN2A hleA hszA
       obtain ⟨AvB, cvB, hvB⟩ := own_form (HNEA.out.own c hck)
       have cbB := cell_at_heap (j := 3) ((HKEA.out.block b hbW hbq).trans HBK.out) rfl
       have cx0B := cell_at_heap (j := 0) HXEA.out rfl
       have cx1B := cell_at_heap (j := 1) HXEA.out rfl
       have cx2B := cell_at_heap (j := 2) HXEA.out rfl
       have cqB := rowV_cell HNEA.out.blk hck
       rw [hvB] at cqB
       have HSSB : Hid (∀ W' : World, (∀ i, i < Y.heap.size → (val2 c).ownBlock ≠ some i → W'.heap[i]? = Y.heap[i]?) → W'.cell? ⟨b, 3, none⟩ = some (.slice (some ⟨q, 0, none⟩) k k) ∧ W'.cell? ⟨X, 0, none⟩ = some (.int .i64 (a : Int)) ∧ W'.cell? ⟨X, 1, none⟩ = some (.int .i64 (c : Int)) ∧ W'.cell? ⟨X, 2, none⟩ = some (.int .i64 (l : Int)) ∧ W'.cell? ⟨q, c, none⟩ = some (.slice AvB ((ls2) c).length cvB)) := by
        intro W' h
        have hlo : ∀ i, (val2 c).ownBlock = some i → WN.heap.size ≤ i := fun i e => ((HNEA.out.own c hck).lt i e).1
        have hqB := HNEA.out.qB
        have hks := HKEA.out.size
        have eb := h b (by omega) (fun e => by have := hlo b e; omega)
        have eq := h q (by omega) (fun e => by have := hlo q e; omega)
        have ex := h X (lt_of_block HXEA.out) (fun e => by
         rcases (HNEA.out.own c hck).2 with ⟨h2, _⟩ | ⟨g, cap, cur, h2, _, h3, _⟩
         ·rw [h2] at e; cases e
         ·rw [h2] at e
          obtain rfl : g = X := Option.some.inj e
          have h4 := HXEA.out
          rw [h3] at h4
          injection h4 with h4
          injection h4 with _ h4 _
          revert h4
          decide)
        exact ⟨(cell_beside eb 3).trans cbB, (cell_beside ex 0).trans cx0B, (cell_beside ex 1).trans cx1B, (cell_beside ex 2).trans cx2B, (cell_beside eq c).trans cqB⟩
       go_wp2_with fail
       refine plain_region (fun W' => W'.cell? ⟨b, 3, none⟩ = some (.slice (some ⟨q, 0, none⟩) k k) ∧ W'.cell? ⟨X, 0, none⟩ = some (.int .i64 (a : Int)) ∧ W'.cell? ⟨X, 1, none⟩ = some (.int .i64 (c : Int)) ∧ W'.cell? ⟨X, 2, none⟩ = some (.int .i64 (l : Int)) ∧ W'.cell? ⟨q, c, none⟩ = some (.slice AvB ((ls2) c).length cvB)) (by kernel_rfl) ⟨cbB, cx0B, cx1B, cx2B, cqB⟩ (fun hHeld => ?_)
       clear cbB cx0B cx1B cx2B cqB
       (refine' anyT_tk 0 rfl ?_; (try simp only [Act.put, nY, nX])); (refine' anyT_tk 1 rfl ?_; (try simp only [Act.put, nY, nX])); (refine' anyT_tk 2 rfl ?_; (try simp only [Act.put, nY, nX])); (refine' anyT_tk 3 rfl ?_; (try simp only [Act.put, nY, nX])); (refine' anyT_tk 4 rfl ?_; (try simp only [Act.put, nY, nX])); (refine' anyT_tk 5 rfl ?_; (try simp only [Act.put, nY, nX])); (refine' anyT_tk 6 rfl ?_; (try simp only [Act.put, nY, nX])); (refine' anyT_tk 7 rfl ?_; (try simp only [Act.put, nY, nX])); (refine' anyT_tk 8 rfl ?_; (try simp only [Act.put, nY, nX])); (refine' anyT_tk 9 rfl ?_; (try simp only [Act.put, nY, nX])); (refine' anyT_tk 10 rfl ?_; (try simp only [Act.put, nY, nX])); (refine' anyT_tk 11 rfl ?_; (try simp only [Act.put, nY, nX])); (refine' anyT_tk 12 rfl ?_; (try simp only [Act.put, nY, nX])); (refine' anyT_tk 13 rfl ?_; (try simp only [Act.put, nY, nX])); (refine' anyT_tk 14 rfl ?_; (try simp only [Act.put, nY, nX])); (refine' anyT_tk 15 rfl ?_; (try simp only [Act.put, nY, nX])); (refine' anyT_tk 16 rfl ?_; (try simp only [Act.put, nY, nX])); (refine' anyT_tk 17 rfl ?_; (try simp only [Act.put, nY, nX])); (refine' anyT_tk 18 rfl ?_; (try simp only [Act.put, nY, nX]))
       clear hHeld
       (refine anyT_sp 19 rfl (fun K' hK' => ?_); simp only [nY]; go_simp)
       have hbdB : Below Y.heap.size Y Y.drew := (Below.refl _ _).drew
       have hzB : ∀ u : Nat, u < 2 → ∀ v, [Value.int .i64 (a : Int), Value.int .i64 (l : Int)][u]? = some v → (Y.drew.alloc (.cells #[.int .i64 (a : Int), .int .i64 (l : Int)] 112)).cell? ⟨Y.drew.heap.size, u, none⟩ = some v := fun u _ v hv => cell_new_at (by simpa using hv)
       have hB2B : Below Y.heap.size Y (Y.drew.alloc (.cells #[.int .i64 (a : Int), .int .i64 (l : Int)] 112)) := hbdB.alloc hbdB.size _
       have HN2B := hI (HNEA.out.below hB2B)
       refine hK' _ _ ⟨.inr (HSSB.out _ fun i h _ => hB2B.block i h), fun _ => ?_⟩
       clear hK' K'
       (try simp only [Act.put, nY, nX])
       have hleB : ((ls2) c).length ≤ 512 := hl6
       obtain ⟨nlB, hnlB⟩ : ∃ x, x = ((ls2) c).length := ⟨_, rfl⟩
       have o7B := HN2B.out.own c hck
       rw [hvB, ← hnlB] at o7B
       rw [← hnlB] at hleB HSSB ⊢
       have hszB := HN2B.out.sz
       refine anyT_sp 20 rfl (fun K' hK' => ?_)
       rw [if_pos (by rfl)]
       refine wp_append_own_at (.tmp 153) (.tmp 159) 110 rfl WN.heap.size 112 (.agg #[.int .i64 0, .int .i64 0]) 2 16 Tryz.underlying110 end_info rfl (by decide) (.slice AvB nlB cvB) nlB (((ls2) c).flatMap endC) (by rfl) o7B ⟨Y.drew.heap.size, 0, none⟩ 1 1 [.int .i64 (a : Int), .int .i64 (l : Int)] (by rfl) rfl
        (fun u v hv => by
         match u, hv with
         | 0, hv => simpa [Addr.add] using hv
         | 1, hv => simpa [Addr.add] using hv
         | u + 2, hv => simp at hv) (by intro u hu; simp at hu; rcases hu with rfl | rfl <;> rfl) (by unfold maxLen; omega) (by omega) hszB ?_
       intro v' X2 hown hgr _ hat
       have hvvB : val2 c = .slice AvB nlB cvB := by rw [hvB, hnlB]
       rw [← hvvB] at hgr hat
       have hSB := HSSB.out X2 fun i h1 h2 => (hgr.block i (Nat.lt_of_lt_of_le h1 hB2B.size) (fun e => h2 e.symm)).trans (hB2B.block i h1)
       have hpushB := HN2B.out.push hck (p := (a, l)) (by rw [← hnlB]; exact hown) hgr hat
       refine hK' _ _ ⟨.inr hSB, fun _ => ?_⟩
       clear hK' K'
       have hq9B : X2.heap[q]? = some (.cells (rowV k val2) 110 (0, 0)) := (hgr.block q (lt_of_block HN2B.out.blk) (fun e => by have h1 := (HNEA.out.own c hck).lt q e.symm; have h2 := HNEA.out.qB; omega)).trans HN2B.out.blk
       have ffB : X2.frozen? ⟨q, c, none⟩ = false := by simp [World.frozen?, hq9B]
       have cfB := hSB.2.2.2.2
       have hS9B := hSB
       have HKEB : Hid (Keep (fun i => i = q) WN (X2.setCell ⟨q, c, none⟩ v')) := (((HKEA.out.below hB2B rr).mono (S' := fun i => i = q ∨ WN.heap.size ≤ i) fun i e => .inl e).grown hgr (fun i e => .inr ((HNEA.out.own c hck).lt i e).1) |>.setCell (p := ⟨q, c, none⟩) (.inl rfl) v').old fun i hi e => e.resolve_right (by omega)
       have HXEB : Hid ((X2.setCell ⟨q, c, none⟩ v').heap[X]? = some (.cells #[.int .i64 (a : Int), .int .i64 (c : Int), .int .i64 (l : Int)] 64 (0, 0))) := by
        refine (Below.heap_setCell _ _ _ _ (by
         intro e
         have h1 := HXEA.out
         have h2 := HNEA.out.blk
         rw [show X = q from e, h2] at h1
         injection h1 with h1
         injection h1 with _ h1 _
         revert h1
         decide)).trans ((hgr.block X (Nat.lt_of_lt_of_le (lt_of_block HXEA.out) hB2B.size) (fun e => ?_)).trans ((hB2B.block X (lt_of_block HXEA.out)).trans HXEA.out))
        rcases (HNEA.out.own c hck).2 with ⟨h2, _⟩ | ⟨g, cap, cur, h2, _, h3, _⟩
        ·rw [h2] at e; cases e
        ·rw [h2] at e
         obtain rfl : X = g := Option.some.inj e
         have h4 := HXEA.out
         rw [h3] at h4
         injection h4 with h4
         injection h4 with _ h4 _
         revert h4
         decide
       have HNEB := hI hpushB
       obtain ⟨A9B, c9B, rfl⟩ := own_form hown
       clear hown hgr hat hSB hq9B hpushB hB2B hbdB hzB HSSB o7B hnlB hvB hvvB
       (try simp only [Act.put, nY, nX])
       (refine anyT_sp 21 rfl (fun K' hK' => ?_); simp only [nY]; go_simp)
       refine hK' _ _ ⟨.inr hS9B, fun _ => ?_⟩
       clear hK' K'
       (try simp only [Act.put, nY, nX])
       (refine anyT_sp 22 rfl (fun K' hK' => ?_); simp only [nY]; go_simp)
       refine hK' _ _ ⟨.inl (by kernel_rfl), fun _ => anyT_done (by kernel_rfl) ?_ _⟩
       clear hK' K' ffB cfB hS9B
       generalize X2.setCell ⟨q, c, none⟩ (.slice A9B (nlB + 1) c9B) = Z at *
       have hdn : (rs.take (j + 1)).map toRoad = done ++ [(a, c, l)] := by rw [HTK.out, List.map_append, ← HDN.out]; rfl
       have HN9 : Hid (NearW WN.heap.size q k (fun u => if u = c then .slice A9B (nlB + 1) c9B else val2 u) (nearN ((rs.take (j + 1)).map toRoad)) Z) := by
        show NearW _ _ _ _ _ _
        rw [hdn]
        exact HNEB.out.eq fun v _ => by rw [near_two done hac v, HL2.out]
       have HE9 : Hid (roadsE k [] rs = roadsE k ((rs.take (j + 1)).map toRoad) (rs.drop (j + 1))) := by
        show _ = _
        rw [hdn]; have h9 := HST2.out; simpa using h9
       have HOK9 : Hid (RoadsOK k ((rs.take (j + 1)).map toRoad)) := by
        show RoadsOK _ _
        rw [hdn]
        have h9 := roads_ok (n := k) (rs := [((a : Int), (c : Int), (l : Int))]) (done := done) (by
         unfold roadsE
         rw [if_neg (by simp only; omega), if_neg (by simp only; omega), if_neg (by simp only; omega), if_neg (by simp only [Int.toNat_natCast]; rw [← HTT.out]; decide)]
         rfl) HOK.out
        exact h9
       have HFR9 : Hid (∀ r ∈ rs.take (j + 1), fromRoad (toRoad r) = r) := fun r hr => by
        rw [HTK.out] at hr
        rcases List.mem_append.1 hr with hr | hr
        ·exact HFR.out r hr
        ·obtain rfl : r = ((a : Int), (c : Int), (l : Int)) := by simpa using hr
         rfl
       have HK9 : Hid (Keep (fun i => i = q) WN Z) := HKEB.out
       clear HNEB HKEB HXEB HNEA HKEA HXEA HL2 hdn HST2 HOK HFR HTK HDN HTT HN2B hleB hszB hl6
       go_wp2
       go_roundw
       case rel => exact ⟨j + 1, _, by omega, by go_num, HN9.out, HE9.out, HOK9.out, HFR9.out, HK9.out⟩
       case measure => simp [intOf]; omega
     ·obtain rfl : j = nr := by omega
      have htk : rs.take j = rs := List.take_of_length_le (by rw [HLR.out]; exact rr)
      have HV3 : Hid (newE names rs = 0) := by
       show _ = _
       rw [HV2.out, HE.out, List.drop_of_length_le (by rw [HLR.out]; exact rr)]; rfl
      rw [htk] at HNW HOK HFR
      clear HE htk
      have cb := cell_at_heap (j := 3) ((HK.out.block b hbW hbq).trans HBK.out) rfl
      have hrr : (rs.map toRoad).map fromRoad = rs := by
       rw [List.map_map]
       conv => rhs; rw [← List.map_id rs]
       exact List.map_congr_left fun r hr => HFR.out r hr
      have HRW : Hid (IsRoads wr A4 (rs.map toRoad).length c4 ((rs.map toRoad).map fromRoad)) := by
       show IsRoads _ _ _ _ _
       rw [hrr, List.length_map]
       refine ⟨Cells.of_own (own_heap HRD.out fun i e => HK.out.block i (HRD.out.lt i e).2 (fun e' => ?_)) (by decide), rfl⟩
       rcases HRD.out.2 with ⟨h2, _⟩ | ⟨g, cap, cur, h2, _, h3, _⟩
       ·rw [h2] at e; cases e
       ·rw [h2] at e
        obtain rfl : g = i := Option.some.inj e
        subst e'
        have h4 := HNQ.out
        rw [h3] at h4
        injection h4 with h4
        injection h4 with _ h4 _
        revert h4
        decide
      have HBW : Hid (wr.heap[b]? = some (.cells #[.slice A1 k c1, .map (some mb), .slice A4 (rs.map toRoad).length c4, .slice (some ⟨q, 0, none⟩) k k] 99 (0, 0))) := by
       show _ = _
       rw [List.length_map]
       exact (HK.out.block b hbW hbq).trans HBK.out
      have hlenr : (rs.map toRoad).length ≤ 512 := by rw [List.length_map, HLR.out]; omega
      have HSW0 := hI (SortW.start HNW.out)
      have HWS : Hid (Below w.heap.size w wr) := HWr.out.trans (HK.out.to_below (fun i e => by omega) HWr.out.size)
      have hqS := lt_of_block HNW.out.blk
      have hqB := HNW.out.qB
      obtain ⟨WS, hWS⟩ : ∃ WS, WS = wr := ⟨_, rfl⟩
      have HQS : Hid (WS.heap[q]? = some (.cells (rowV k val) 110 (0, 0))) := by rw [hWS]; exact HNW.out.blk
      rw [← hWS] at HSW0 HWS hqS HRW HBW
      have HRL : Hid (∀ ad, A4 = some ad → ad.block < WN.heap.size) := fun ad had => by subst had; exact (HRD.out.lt ad.block rfl).2
      clear HNW HRD HK HFR
      go_wp2_with fail
      clear cb
      subst hWS
      go_loopw [168] (fun i wr => ∃ (v : Nat) (es : Nat → List (Nat × Nat)), v ≤ k ∧ i = .int .i64 (v : Int) ∧ Hid (SortW WN.heap.size k v val (nearN (rs.map toRoad)) es WS wr)) (fun i _ => k - (intOf i).toNat)
      case atStart => exact ⟨0, _, Nat.zero_le _, rfl, HSW0.out⟩
      case round =>
       obtain ⟨v, es, hv, rfl, HSW⟩ := hrel
       clear HSW0
       have hq9 := (HSW.out.kp.block q hqS (by omega)).trans HQS.out
       by_cases hvk : v < k
       ·have hvk' : (v : Int) < (k : Int) := by omega
        have cq := rowV_cell hq9 hvk
        have hln : (nearN (rs.map toRoad) v).length ≤ 4000 := Nat.le_trans (List.length_filterMap_le _ _) (by omega)
        clear hq9
        go_wp2_with fail
        refine (sortEnd_c (val v) WN.heap.size (nearN (rs.map toRoad) v) wr (HSW.out.lo v hvk rr) hln).mono ?_
        rintro e w2 ⟨rfl, ⟨A5, c5, es', hv5, he5, hp5⟩, hk5⟩
        have HS5 := hI (HSW.out.step hvk hv5 he5 hp5 hk5)
        clear hv5 he5 hp5 hk5 cq hln
        go_wp2
        go_roundw
        case rel => exact ⟨v + 1, _, by omega, by go_num, HS5.out⟩
        case measure => simp [intOf]; omega
       ·obtain rfl : v = k := by omega
        have HMP : Hid (MapAt wr b v (rs.map toRoad)) := by
         have hbb : b < WN.heap.size := hbW
         have hbS : b < WS.heap.size := lt_of_block HBW.out
         refine HSW.out.map ((HSW.out.kp.block b hbS (by omega)).trans HBW.out) ⟨?_, HRW.out.2⟩ hq9 HOK.out (by omega) hlenr
         exact cells_keep HRW.out.1 HSW.out.kp fun hn ad had e => by have := HRL.out ad had; omega
        have HBF : Hid (Below w.heap.size w wr) := HWS.out.trans (HSW.out.kp.to_below (fun i e => by have := HWr.out.size; omega) HWS.out.size)
        have HLN' := HLN
        go_wp2
        go_ret2
        exact ⟨.inr ⟨HV3.out, b, rfl, by rw [HLN'.out]; exact HMP.out⟩, HBF.out⟩
end Go.Proofs.YtaglfmlgbcmakaaGreatDoor

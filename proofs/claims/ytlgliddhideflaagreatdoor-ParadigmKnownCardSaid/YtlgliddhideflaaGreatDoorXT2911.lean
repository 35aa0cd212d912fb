/-
  ablautlaw29.ParadigmKnown is true (under way).
-/
import Derived.Test.YtlgliddhideflaaGreatDoorXAnyJ
import Derived.Test.YtlgliddhideflaaGreatDoorG67
import Derived.Test.YtlgliddhideflaaGreatDoorG18
import Derived.Test.YtlgliddhideflaaGreatDoorXKn4
set_option linter.all false
set_option maxRecDepth 100000
set_option maxHeartbeats 4000000
namespace Go.Proofs.YtlgliddhideflaaGreatDoor
open Go.RowKit Go.Shelf
def WordS (w : World) (A : Option Addr) (n c : Nat) (xs : List Snd) : Prop := IsWord w A n c xs ∧ ∀ ad, A = some ad → ∃ cs fr, w.heap[ad.block]? = some (.cells cs 24 fr)
theorem WordS.below {w w' : World} {A : Option Addr} {n c : Nat} {xs : List Snd} (h : WordS w A n c xs) (hb : Below w.heap.size w w') : WordS w' A n c xs :=
 ⟨h.1.below hb rr, fun ad had => (h.2 ad had).elim fun cs h0 => h0.elim fun fr h1 => ⟨cs, fr, (hb.block _ (lt_of_block h1)).trans h1⟩⟩
def phi1 (i : Nat) (v : Value) (w : World) : Prop := match i with
 | 0 => v = .agg #[.int .u32 1, .int .u32 1]
 | 1 => ∃ A n c, v = .slice A n c ∧ WordS w A n c [(1, 1)]
 | 2 => ∃ A n c, v = .agg #[.bool true, .slice A n c] ∧ WordS w A n c [(1, 1)]
 | 3 => ∃ A n c, v = .slice A n c ∧ WordS w A n c (List.replicate 33 (0, 0))
 | 4 => ∃ A n c, v = .agg #[.bool true, .slice A n c] ∧ WordS w A n c (List.replicate 33 (0, 0))
 | 5 => ∃ b, v = .pointer (some ⟨b, 0, none⟩) ∧ w.heap[b]? = some (.cells #[.bool false, .slice none 0 0] 57 (0, 0))
 | 6 => ∃ b, v = .pointer (some ⟨b, 0, none⟩) ∧ w.heap[b]? = some (.cells #[.bool false, .slice none 0 0] 57 (0, 0))
 | _ => True
def nb1 (i : Nat) (v : Value) : Option Nat := match i, v with
 | 5, .pointer (some ad) => some ad.block
 | 6, .pointer (some ad) => some ad.block
 | _, _ => none
theorem phi1_below {i : Nat} {v : Value} {w w' : World} (h : phi1 i v w) (hb : Below w.heap.size w w') : phi1 i v w' := by
 unfold phi1 at *
 split at h
 ·exact h
 ·obtain ⟨A, n, c, e, h⟩ := h; exact ⟨A, n, c, e, h.below hb⟩
 ·obtain ⟨A, n, c, e, h⟩ := h; exact ⟨A, n, c, e, h.below hb⟩
 ·obtain ⟨A, n, c, e, h⟩ := h; exact ⟨A, n, c, e, h.below hb⟩
 ·obtain ⟨A, n, c, e, h⟩ := h; exact ⟨A, n, c, e, h.below hb⟩
 ·obtain ⟨b, e, h⟩ := h; exact ⟨b, e, (hb.block _ (lt_of_block h)).trans h⟩
 ·obtain ⟨b, e, h⟩ := h; exact ⟨b, e, (hb.block _ (lt_of_block h)).trans h⟩
 ·trivial
theorem made_snds (n : Nat) : madeCells #[Value.int .u32 0, .int .u32 0] (n * 2) = ((List.replicate n ((0, 0) : Snd)).flatMap sndC2).toArray := by
 apply Array.ext
 ·simp [size_madeCells, flat_len sndC2 2 sndC2_len]
 ·intro i h1 h2
  have hi : i < n * 2 := by simpa [size_madeCells] using h1
  have hz : (List.replicate n ((0, 0) : Snd))[i / 2]? = some (0, 0) := by rw [List.getElem?_replicate, if_pos (by omega)]
  rcases Nat.mod_two_eq_zero_or_one i with h | h
  ·have h3 := flat_at sndC2 2 sndC2_len _ (i / 2) (0, 0) hz 0 (.int .u32 0) rfl
   rw [show i / 2 * 2 + 0 = i by omega] at h3
   exact Eq.trans (by simp [madeCells, h]) ((List.getElem?_eq_some_iff.1 h3).2.symm.trans rfl)
  ·have h3 := flat_at sndC2 2 sndC2_len _ (i / 2) (0, 0) hz 1 (.int .u32 0) rfl
   rw [show i / 2 * 2 + 1 = i by omega] at h3
   exact Eq.trans (by simp [madeCells, h]) ((List.getElem?_eq_some_iff.1 h3).2.symm.trans rfl)
theorem run_make_snds (n : Nat) (hn : n ≤ 4096) (w : World) : (Instr.makeSlice 32 (.int .i64 (n : Int)) (.int .i64 (n : Int))).run Tryz.prog w = .ok (.slice (some ⟨w.heap.size, 0, none⟩) n n) (w.alloc (.cells (wcells (List.replicate n (0, 0))).toArray 24)) := by
 obtain ⟨i, hi, hzz⟩ := Option.map_eq_some_iff.1 snd_info
 simp only [Prod.mk.injEq] at hzz
 obtain ⟨hz, hs, hb⟩ := hzz
 have hr := run_make (P := Tryz.prog) w 32 24 i _ Tryz.underlying32 hi hz .i64 .i64 n n (by omega) (Int.le_refl _) (by rw [hb]; omega) (by omega)
 rw [Int.toNat_natCast, hs] at hr
 rw [← wcells_fm, ← made_snds]
 exact hr
theorem wordS_new (w : World) (xs : List Snd) (hn : xs.length ≤ 4096) : WordS (w.alloc (.cells (wcells xs).toArray 24)) (some ⟨w.heap.size, 0, none⟩) xs.length xs.length xs :=
 ⟨built_word w xs 24 hn, fun ad had => ⟨_, _, (congrArg (fun x : Addr => (w.alloc (.cells (wcells xs).toArray 24)).heap[x.block]?) (Option.some.inj had)).symm.trans (heap_new_at rfl)⟩⟩
theorem two_cells {w : World} {b : Nat} {u v : Value} {t : TypeId} (h : w.heap[b]? = some (.cells #[u, v] t (0, 0))) :
  w.cell? ⟨b, 0, none⟩ = some u ∧ w.cell? ⟨b, 1, none⟩ = some v ∧ w.frozen? ⟨b, 0, none⟩ = false ∧ w.frozen? ⟨b, 1, none⟩ = false := by
 simp [World.cell?, World.frozen?, h]
theorem two_set {w : World} {b : Nat} {u v x y : Value} {t : TypeId} (h : w.heap[b]? = some (.cells #[u, v] t (0, 0))) :
  (w.setCell ⟨b, 0, none⟩ x).heap[b]? = some (.cells #[x, v] t (0, 0)) ∧ ((w.setCell ⟨b, 0, none⟩ x).setCell ⟨b, 1, none⟩ y).heap[b]? = some (.cells #[x, y] t (0, 0)) :=
 ⟨heap_setCell_same h, heap_setCell_same (heap_setCell_same h)⟩
theorem WordS.keep {S : Nat → Prop} {w w' : World} {A : Option Addr} {n c : Nat} {xs : List Snd} (h : WordS w A n c xs) (hk : Keep S w w') (hS : ∀ b, S b → ∃ cs fr, w.heap[b]? = some (.cells cs 57 fr)) : WordS w' A n c xs := by
 have hno : ∀ ad, A = some ad → ¬ S ad.block := fun ad had hs => by
  obtain ⟨cs, fr, h1⟩ := h.2 ad had
  obtain ⟨cs', fr', h2⟩ := hS _ hs
  rw [h1] at h2
  cases h2
 refine ⟨h.1.keep hk (fun _ => hno), fun ad had => ?_⟩
 obtain ⟨cs, fr, h1⟩ := h.2 ad had
 exact ⟨cs, fr, (hk.block _ (lt_of_block h1) (hno ad had)).trans h1⟩
theorem noDst_spec {ops : Array Oper} {s : Nat} (h : (ops.all fun o => o.dst != some s) = true) : ∀ j, dstOf ops j ≠ some s := by
 intro j hj
 unfold dstOf at hj
 cases ho : ops[j]? with
 | none => rw [ho] at hj; cases hj
 | some o =>
  rw [ho] at hj
  have h1 := (Array.all_eq_true.1 h) j (Array.getElem?_eq_some_iff.1 ho).1
  rw [(Array.getElem?_eq_some_iff.1 ho).2] at h1
  have h2 : o.dst = some s := hj
  simp [h2] at h1
structure CaseR where
 A : Option Addr
 n : Nat
 c : Nat
 d : List (List Frm) × Int
def CaseR.cells (r : CaseR) : List Value := [.slice r.A r.n r.c, .int .i64 r.d.2]
theorem CaseR.len (r : CaseR) : r.cells.length = 2 := rfl
def IsCases (w : World) (A : Option Addr) (n c : Nat) (l : List (List (List Frm) × Int)) : Prop := ∃ rs : List CaseR, rs.map CaseR.d = l ∧ Recs CaseR.cells 2 w A n c rs ∧ ∀ r ∈ rs, IsPar w r.A r.n r.c r.d.1
theorem built_cases (w : World) (rs : List CaseR) {t : TypeId} (hn : rs.length ≤ 4096) (hp : ∀ r ∈ rs, IsPar w r.A r.n r.c r.d.1) : IsCases (w.alloc (.cells (rs.flatMap CaseR.cells).toArray t)) (some ⟨w.heap.size, 0, none⟩) rs.length rs.length (rs.map CaseR.d) :=
 ⟨rs, rfl, ⟨⟨flat_len CaseR.cells 2 CaseR.len rs, rr, by unfold maxLen; omega, (fun h => by cases h), fun _ => ⟨w.heap.size, 0, rfl, by simp, fun j v hv => by rw [Nat.zero_add]; exact cell_new_at (by simpa using hv)⟩⟩, rfl⟩,
  fun r hr => (hp r hr).below ((Below.refl w.heap.size w).alloc rr _) rr⟩
def phi3 (i : Nat) (v : Value) (w : World) : Prop := match i with
 | 0 => CasV w v [] 0
 | 1 => TabV w v (List.replicate 64 [])
 | 2 => CasV w v (List.replicate 64 []) 0
 | 3 => TabV w v (List.replicate 65 [])
 | 4 => CasV w v (List.replicate 65 []) 12
 | 5 => FmsV w v (List.replicate 17 (false, []))
 | 6 => TabV w v [[], List.replicate 17 (false, [])]
 | 7 => CasV w v [[], List.replicate 17 (false, [])] 12
 | 8 => FrmV w v badF
 | 9 => FmsV w v [badF]
 | 10 => FmsV w v []
 | 11 => TabV w v [[badF], []]
 | 12 => CasV w v [[badF], []] 2
 | 13 => FrmV w v badF
 | 14 => FrmV w v wrongF
 | 15 => FmsV w v [badF, wrongF]
 | 16 => TabV w v [[badF, wrongF]]
 | 17 => CasV w v [[badF, wrongF]] 2
 | 18 => FrmV w v badF
 | 19 => FrmV w v longFm
 | 20 => FmsV w v [badF, longFm]
 | 21 => TabV w v [[badF, longFm]]
 | 22 => CasV w v [[badF, longFm]] 14
 | 23 => FrmV w v (true, [])
 | 24 => FrmV w v longFm
 | 25 => FmsV w v [(true, []), longFm]
 | 26 => FrmV w v badF
 | 27 => FrmV w v (false, [])
 | 28 => FmsV w v [badF, (false, [])]
 | 29 => TabV w v [[(true, []), longFm], [badF, (false, [])]]
 | 30 => CasV w v [[(true, []), longFm], [badF, (false, [])]] 11
 | 31 => FmsV w v (List.replicate 16 (false, []))
 | 32 => TabV w v [List.replicate 16 (false, [])]
 | 33 => CasV w v [List.replicate 16 (false, [])] 0
 | 34 => ∃ A c, v = .slice A 9 c ∧ IsCases w A 9 c cases29
 | 35 => v = .int .i64 9
 | 36 => v = .int .i64 0
 | _ => True
theorem IsCases.below {w w' : World} {A : Option Addr} {n c : Nat} {l : List (List (List Frm) × Int)} (h : IsCases w A n c l) (hb : Below w.heap.size w w') : IsCases w' A n c l := by
 obtain ⟨rs, h1, h2, h3⟩ := h
 exact ⟨rs, h1, h2.below hb rr, fun r hr => (h3 r hr).below hb rr⟩
theorem phi3_below {i : Nat} {v : Value} {w w' : World} (h : phi3 i v w) (hb : Below w.heap.size w w') : phi3 i v w' := by
 unfold phi3 at *
 split at h <;> first | exact FrmV.below h hb | exact FmsV.below h hb | exact TabV.below h hb | exact CasV.below h hb | exact h | (obtain ⟨A, c, e, h⟩ := h; exact ⟨A, c, e, h.below hb⟩)
def WrdV (w : World) (v : Value) (x : List Snd) : Prop := ∃ A n c, v = .slice A n c ∧ IsWord w A n c x
def WdsV (w : World) (v : Value) (x : List (List Snd)) : Prop := ∃ A n c, v = .slice A n c ∧ IsWords w A n c x
theorem WrdV.below {w w' : World} {v : Value} {x : List Snd} (h : WrdV w v x) (hb : Below w.heap.size w w') : WrdV w' v x := by
 obtain ⟨A, n, c, e, h⟩ := h; exact ⟨A, n, c, e, h.below hb rr⟩
theorem WdsV.below {w w' : World} {v : Value} {x : List (List Snd)} (h : WdsV w v x) (hb : Below w.heap.size w w') : WdsV w' v x := by
 obtain ⟨A, n, c, e, h⟩ := h; exact ⟨A, n, c, e, h.below hb rr⟩
def phi23 (i : Nat) (v : Value) (w : World) : Prop := match i with
 | 0 => WrdV w v (List.replicate 31 (0, 0))
 | 1 => WdsV w v [List.replicate 31 (0, 0)]
 | 2 => v = sndV sP.1 sP.2
 | 3 => WrdV w v [sP]
 | 4 => FrmV w v (true, [sP])
 | 5 => v = sndV sP.1 sP.2
 | 6 => v = sndV sP.1 sP.2
 | 7 => WrdV w v [sP, sP]
 | 8 => FrmV w v (true, [sP, sP])
 | 9 => FmsV w v [(true, [sP]), (true, [sP, sP])]
 | 10 => TabV w v [[(true, [sP]), (true, [sP, sP])]]
 | 11 => ∃ A n c, v = .tuple #[.slice A n c, .int .i64 11]
 | 12 => ∃ A n c, v = .tuple #[.slice A n c, .int .i64 11]
 | 13 => ∃ A n c, v = .slice A n c
 | 14 => v = .int .i64 11
 | 15 => ∃ A n c, v = .slice A n c
 | 16 => v = .int .i64 11
 | _ => True
theorem phi23_below {i : Nat} {v : Value} {w w' : World} (h : phi23 i v w) (hb : Below w.heap.size w w') : phi23 i v w' := by
 unfold phi23 at *
 split at h <;> first | exact WrdV.below h hb | exact WdsV.below h hb | exact FrmV.below h hb | exact FmsV.below h hb | exact TabV.below h hb | exact h
def row32 : List Frm := [(true, List.replicate 31 (0, 0) ++ [sP]), (false, [])]
def phi24 (i : Nat) (v : Value) (w : World) : Prop := match i with
 | 0 => WrdV w v (List.replicate 31 (0, 0))
 | 1 => WdsV w v [List.replicate 31 (0, 0)]
 | 2 => v = sndV sP.1 sP.2
 | 3 => WrdV w v [sP]
 | 4 => FrmV w v (true, [sP])
 | 5 => FrmV w v (false, [])
 | 6 => FmsV w v [(true, [sP]), (false, [])]
 | 7 => TabV w v [[(true, [sP]), (false, [])]]
 | 8 => ∃ A n c, v = .tuple #[.slice A n c, .int .i64 0] ∧ IsPar w A n c [row32]
 | 9 => ∃ A n c, v = .tuple #[.slice A n c, .int .i64 0] ∧ IsPar w A n c [row32]
 | 10 => TabV w v [row32]
 | 11 => v = .int .i64 0
 | 12 => TabV w v [row32]
 | 13 => v = .int .i64 0
 | _ => True
theorem phi24_below {i : Nat} {v : Value} {w w' : World} (h : phi24 i v w) (hb : Below w.heap.size w w') : phi24 i v w' := by
 unfold phi24 at *
 split at h <;> first | exact WrdV.below h hb | exact WdsV.below h hb | exact FrmV.below h hb | exact FmsV.below h hb | exact TabV.below h hb | exact h | (obtain ⟨A, n, c, e, h⟩ := h; exact ⟨A, n, c, e, h.below hb rr⟩)
theorem parKnown_c (w : World) (hT : TabOK w) : Calls Tryz.prog 4 #[] w (RetTrue w) := by
 have HT := hI hT; clear hT
 go_enter Tryz.func4, Tryz.ntmps4
 go_wp2_with fail
 refine region_invJ (by kernel_rfl) (by kernel_rfl) phi1 nb1 7 (by decide) (by kernel_rfl) _ w (fun j v w w' h hb => phi1_below h hb) ?hstep ?hrest
 case hstep =>
  intro i o hi ho a w' hs hb
  have hi7 : i = 0 ∨ i = 1 ∨ i = 2 ∨ i = 3 ∨ i = 4 ∨ i = 5 ∨ i = 6 := by omega
  rcases hi7 with rfl | rfl | rfl | rfl | rfl | rfl | rfl
  ·simp only [List.getElem?_toArray, List.getElem?_cons_zero, List.getElem?_cons_succ, Option.some.injEq] at ho
   subst ho
   unfold Oper.wp
   go_simp
   exact ⟨_, rfl, rfl, Below.refl _ _, fun b h => by cases h⟩
  ·simp only [List.getElem?_toArray, List.getElem?_cons_zero, List.getElem?_cons_succ, Option.some.injEq] at ho
   obtain ⟨v0, hv0, hat0⟩ := hs.1 0 (by rw [← ho]; exact ⟨_, Array.mem_of_getElem? (i := 0) rfl, rfl, rfl⟩)
   have hs0 := hat0 38 (by rfl) (by simp)
   obtain rfl : v0 = .agg #[.int .u32 1, .int .u32 1] := hv0
   have e38 : a.eval (.tmp 38) = .agg #[.int .u32 1, .int .u32 1] := by simp [Act.eval, hs0]
   subst ho
   unfold Oper.wp
   go_simp
   exact ⟨_, rfl, ⟨_, _, _, rfl, wordS_new w' [(1, 1)] (by simp)⟩, bel, fun b h => by cases h⟩
  ·simp only [List.getElem?_toArray, List.getElem?_cons_zero, List.getElem?_cons_succ, Option.some.injEq] at ho
   obtain ⟨v1, hv1, hat1⟩ := hs.1 1 (by rw [← ho]; exact ⟨_, Array.mem_of_getElem? (i := 0) rfl, rfl, rfl⟩)
   have hs1 := hat1 39 (by rfl) (by simp)
   obtain ⟨A, n, c, rfl, hw⟩ := hv1
   have e39 : a.eval (.tmp 39) = .slice A n c := by simp [Act.eval, hs1]
   subst ho
   unfold Oper.wp
   go_simp
   refine (form29_c A n c w').mono ?_
   rintro e w2 ⟨rfl, hb2⟩
   exact ⟨_, rfl, ⟨_, _, _, rfl, hw.below hb2⟩, hb2, fun b h => by cases h⟩
  ·simp only [List.getElem?_toArray, List.getElem?_cons_zero, List.getElem?_cons_succ, Option.some.injEq] at ho
   subst ho
   unfold Oper.wp
   have hmk : ∀ W : World, (Instr.makeSlice 32 (.int .i64 33) (.int .i64 33)).run Tryz.prog W = _ := run_make_snds 33 (by omega)
   simp only [hmk]
   go_simp
   exact ⟨_, rfl, ⟨_, _, _, rfl, wordS_new w' (List.replicate 33 (0, 0)) (by simp)⟩, bel, fun b h => by cases h⟩
  ·simp only [List.getElem?_toArray, List.getElem?_cons_zero, List.getElem?_cons_succ, Option.some.injEq] at ho
   obtain ⟨v3, hv3, hat3⟩ := hs.1 3 (by rw [← ho]; exact ⟨_, Array.mem_of_getElem? (i := 0) rfl, rfl, rfl⟩)
   have hs3 := hat3 41 (by rfl) (by simp)
   obtain ⟨A, n, c, rfl, hw⟩ := hv3
   have e41 : a.eval (.tmp 41) = .slice A n c := by simp [Act.eval, hs3]
   subst ho
   unfold Oper.wp
   go_simp
   refine (form29_c A n c w').mono ?_
   rintro e w2 ⟨rfl, hb2⟩
   exact ⟨_, rfl, ⟨_, _, _, rfl, hw.below hb2⟩, hb2, fun b h => by cases h⟩
  ·simp only [List.getElem?_toArray, List.getElem?_cons_zero, List.getElem?_cons_succ, Option.some.injEq] at ho
   subst ho
   unfold Oper.wp
   go_simp
   exact ⟨_, rfl, ⟨_, rfl, hpt⟩, bel, fun b h => ⟨Nat.le_of_eq (Option.some.inj h), (Option.some.inj h) ▸ by simp⟩⟩
  ·simp only [List.getElem?_toArray, List.getElem?_cons_zero, List.getElem?_cons_succ, Option.some.injEq] at ho
   subst ho
   unfold Oper.wp
   go_simp
   exact ⟨_, rfl, ⟨_, rfl, hpt⟩, bel, fun b h => ⟨Nat.le_of_eq (Option.some.inj h), (Option.some.inj h) ▸ by simp⟩⟩
 case hrest =>
  intro vs a w1 hs hrng hdist hb1 ha
  obtain ⟨A2, n2, c2, e2, h2⟩ := hs 2 (by omega)
  obtain ⟨A4, n4, c4, e4, h4⟩ := hs 4 (by omega)
  obtain ⟨b1, e5, h5⟩ := hs 5 (by omega)
  obtain ⟨b2, e6, h6⟩ := hs 6 (by omega)
  have hne : b1 ≠ b2 := fun h => hdist 5 6 b1 (by omega) (by omega) (by omega) (by rw [e5]; rfl) (by rw [e6, h]; rfl)
  have hr1 := hrng 5 b1 (by omega) (by rw [e5]; rfl)
  have hr2 := hrng 6 b2 (by omega) (by rw [e6]; rfl)
  refine any_of_T (S := fun _ => True) _ _ _ _ ?_
  generalize hv0 : vs 0 = v0 at *
  generalize hv1 : vs 1 = v1 at *
  generalize hv3 : vs 3 = v3 at *
  simp only [putAll, dstOf, List.getElem?_toArray, List.getElem?_cons_zero, List.getElem?_cons_succ, Option.bind_some, Option.map_some, e2, e4, e5, e6, hv0, hv1, hv3] at ha
  subst ha
  change anyT _ _ _ _ _ 2 _ _ _
  obtain ⟨d0, d1, f0, f1⟩ := two_cells h5
  obtain ⟨k1, k2⟩ := two_set (x := .bool true) (y := .slice A2 n2 c2) h5
  obtain ⟨_, d1', _, f1'⟩ := two_cells k1
  (refine anyT_sp 7 rfl (fun K' hK' => ?_); simp only [nY]; go_simp)
  refine hK' _ _ ⟨.inr trivial, fun _ => ?_⟩
  clear hK' K' d0 d1 f0 f1 k1 d1' f1'
  generalize hW2 : (w1.setCell ⟨b1, 0, none⟩ (.bool true)).setCell ⟨b1, 1, none⟩ (.slice A2 n2 c2) = W2 at *
  have h6' : W2.heap[b2]? = some (.cells #[.bool false, .slice none 0 0] 57 (0, 0)) := by
   rw [← hW2]; exact ((Below.heap_setCell _ _ _ _ (Ne.symm hne)).trans (Below.heap_setCell _ _ _ _ (Ne.symm hne))).trans h6
  obtain ⟨d0, d1, f0, f1⟩ := two_cells h6'
  obtain ⟨k1, k3⟩ := two_set (x := .bool true) (y := .slice A4 n4 c4) h6'
  obtain ⟨_, d1', _, f1'⟩ := two_cells k1
  (refine anyT_sp 8 rfl (fun K' hK' => ?_); simp only [nY]; go_simp)
  refine hK' _ _ ⟨.inl (by kernel_rfl), fun _ => anyT_done (by kernel_rfl) ?_ _⟩
  clear hK' K' d0 d1 f0 f1 k1 d1' f1'
  generalize hW3 : (W2.setCell ⟨b2, 0, none⟩ (.bool true)).setCell ⟨b2, 1, none⟩ (.slice A4 n4 c4) = W3 at *
  have k2' : W3.heap[b1]? = some (.cells #[.bool true, .slice A2 n2 c2] 57 (0, 0)) := by
   rw [← hW3]; exact ((Below.heap_setCell _ _ _ _ hne).trans (Below.heap_setCell _ _ _ _ hne)).trans k2
  have hkp : Keep (fun k => k = b1 ∨ k = b2) w1 W3 := by
   rw [← hW3, ← hW2]
   exact ((((Keep.refl _ _).setCell (p := ⟨b1, 0, none⟩) (Or.inl rfl) _).setCell (p := ⟨b1, 1, none⟩) (Or.inl rfl) _).setCell (p := ⟨b2, 0, none⟩) (Or.inr rfl) _).setCell (p := ⟨b2, 1, none⟩) (Or.inr rfl) _
  have hSf : ∀ b, (b = b1 ∨ b = b2) → ∃ cs fr, w1.heap[b]? = some (.cells cs 57 fr) := by
   rintro b (rfl | rfl)
   ·exact ⟨_, _, h5⟩
   ·exact ⟨_, _, h6⟩
  have g2 : WordS W3 A2 n2 c2 [(1, 1)] := h2.keep hkp hSf
  have g4 : WordS W3 A4 n4 c4 (List.replicate 33 (0, 0)) := h4.keep hkp hSf
  have hB3 : Below w.heap.size w W3 := by
   rw [← hW3, ← hW2]
   exact (((hb1.setCell hr1.1 _).setCell hr1.1 _).setCell hr2.1 _).setCell hr2.1 _
  have K1 := hI k2'
  have K2 := hI k3
  have G2 := hI g2
  have G4 := hI g4
  have HB3 := hI hB3
  have HNE := hI hne
  clear k2' k3 k2 g2 g4 hB3 hne hW3 hW2 hkp hSf h5 h6 h6' e2 e4 e5 e6 h2 h4 hs hrng hdist hb1 hr1 hr2 hv0 hv1 hv3
  go_wp2_with fail
  refine (exP29_c W3).mono ?_
  rintro e W4 ⟨rfl, hb4⟩
  have HB4 : Hid (Below W3.heap.size W3 W4) := hb4
  clear hb4
  go_wp2_with fail
  obtain ⟨W5, hW5⟩ : ∃ W, W = (W4.alloc (.cells #[.int .u32 sP.1, .int .u32 sP.2] 24)).alloc (.cells #[.bool false, .slice (some ⟨W4.heap.size, 0, none⟩) 1 1] 57) := ⟨_, rfl⟩
  have hB5 : Below W3.heap.size W3 W5 := by rw [hW5]; exact (HB4.out.alloc HB4.out.size _).alloc (Nat.le_trans HB4.out.size (by simp)) _
  have k1 : W5.heap[b1]? = some (.cells #[.bool true, .slice A2 n2 c2] 57 (0, 0)) := (hB5.block _ (lt_of_block K1.out)).trans K1.out
  have k2 : W5.heap[b2]? = some (.cells #[.bool true, .slice A4 n4 c4] 57 (0, 0)) := (hB5.block _ (lt_of_block K2.out)).trans K2.out
  have k3 : W5.heap[W4.heap.size + 1]? = some (.cells #[.bool false, .slice (some ⟨W4.heap.size, 0, none⟩) 1 1] 57 (0, 0)) := by rw [hW5]; exact heap_new_at (by simp)
  have hx1 : IsWord W5 A2 n2 c2 [(1, 1)] := G2.out.1.below hB5 rr
  have hx2 : IsWord W5 A4 n4 c4 (List.replicate 33 (0, 0)) := G4.out.1.below hB5 rr
  have hx3 : IsWord W5 (some ⟨W4.heap.size, 0, none⟩) 1 1 [(2, 5)] := by
   rw [hW5]; exact (built_word W4 [(2, 5)] 24 (by simp)).below ((Below.refl _ _).alloc rr _) rr
  rw [← hW5]
  clear hW5
  refine region_inv (by kernel_rfl) (by kernel_rfl) phi3 _ _ (fun j v w w' h hb => phi3_below h hb) ?hstep3 ?hrest3
  case hstep3 =>
   intro i o ho a w' hs hb
   have hi37 : i < 37 := (Array.getElem?_eq_some_iff.1 ho).1
   have hi : i = 0 ∨ i = 1 ∨ i = 2 ∨ i = 3 ∨ i = 4 ∨ i = 5 ∨ i = 6 ∨ i = 7 ∨ i = 8 ∨ i = 9 ∨ i = 10 ∨ i = 11 ∨ i = 12 ∨ i = 13 ∨ i = 14 ∨ i = 15 ∨ i = 16 ∨ i = 17 ∨ i = 18 ∨ i = 19 ∨ i = 20 ∨ i = 21 ∨ i = 22 ∨ i = 23 ∨ i = 24 ∨ i = 25 ∨ i = 26 ∨ i = 27 ∨ i = 28 ∨ i = 29 ∨ i = 30 ∨ i = 31 ∨ i = 32 ∨ i = 33 ∨ i = 34 ∨ i = 35 ∨ i = 36 := by omega
   clear hi37
   rcases hi with rfl | rfl | rfl | rfl | rfl | rfl | rfl | rfl | rfl | rfl | rfl | rfl | rfl | rfl | rfl | rfl | rfl | rfl | rfl | rfl | rfl | rfl | rfl | rfl | rfl | rfl | rfl | rfl | rfl | rfl | rfl | rfl | rfl | rfl | rfl | rfl | rfl
   ·simp only [List.getElem?_toArray, List.getElem?_cons_zero, List.getElem?_cons_succ, Option.some.injEq] at ho
    subst ho
    unfold Oper.wp
    go_simp
    exact ⟨_, rfl, ⟨_, _, _, rfl, IsPar.nil _⟩, Below.refl _ _⟩
   ·simp only [List.getElem?_toArray, List.getElem?_cons_zero, List.getElem?_cons_succ, Option.some.injEq] at ho
    subst ho
    unfold Oper.wp
    have hmk : ∀ W : World, (Instr.makeSlice 60 (.int .i64 64) (.int .i64 64)).run Tryz.prog W = _ := run_mk_rows 64 (by omega)
    simp only [hmk]
    go_simp
    exact ⟨_, rfl, ⟨_, _, _, rfl, mk_rows _ 64 (by omega)⟩, bel⟩
   ·simp only [List.getElem?_toArray, List.getElem?_cons_zero, List.getElem?_cons_succ, Option.some.injEq] at ho
    obtain ⟨v1, hv1, hat1⟩ := hs.1 1 (by rw [← ho]; exact ⟨_, Array.mem_of_getElem? (i := 0) rfl, rfl, rfl⟩)
    have hs1 := hat1 47 (by rfl) (by simp)
    obtain ⟨A, n, c, rfl, hp⟩ := hv1
    have e1 : a.eval (.tmp 47) = .slice A n c := by simp [Act.eval, hs1]
    subst ho
    unfold Oper.wp
    go_simp
    exact ⟨_, rfl, ⟨_, _, _, rfl, hp⟩, Below.refl _ _⟩
   ·simp only [List.getElem?_toArray, List.getElem?_cons_zero, List.getElem?_cons_succ, Option.some.injEq] at ho
    subst ho
    unfold Oper.wp
    have hmk : ∀ W : World, (Instr.makeSlice 60 (.int .i64 65) (.int .i64 65)).run Tryz.prog W = _ := run_mk_rows 65 (by omega)
    simp only [hmk]
    go_simp
    exact ⟨_, rfl, ⟨_, _, _, rfl, mk_rows _ 65 (by omega)⟩, bel⟩
   ·simp only [List.getElem?_toArray, List.getElem?_cons_zero, List.getElem?_cons_succ, Option.some.injEq] at ho
    obtain ⟨v3, hv3, hat3⟩ := hs.1 3 (by rw [← ho]; exact ⟨_, Array.mem_of_getElem? (i := 0) rfl, rfl, rfl⟩)
    have hs3 := hat3 49 (by rfl) (by simp)
    obtain ⟨A, n, c, rfl, hp⟩ := hv3
    have e1 : a.eval (.tmp 49) = .slice A n c := by simp [Act.eval, hs3]
    subst ho
    unfold Oper.wp
    go_simp
    exact ⟨_, rfl, ⟨_, _, _, rfl, hp⟩, Below.refl _ _⟩
   ·simp only [List.getElem?_toArray, List.getElem?_cons_zero, List.getElem?_cons_succ, Option.some.injEq] at ho
    subst ho
    unfold Oper.wp
    have hmk : ∀ W : World, (Instr.makeSlice 62 (.int .i64 17) (.int .i64 17)).run Tryz.prog W = _ := run_mk_forms 17 (by omega)
    simp only [hmk]
    go_simp
    exact ⟨_, rfl, ⟨_, _, _, rfl, mk_forms _ 17 (by omega)⟩, bel⟩
   ·simp only [List.getElem?_toArray, List.getElem?_cons_zero, List.getElem?_cons_succ, Option.some.injEq] at ho
    obtain ⟨v5, hv5, hat5⟩ := hs.1 5 (by rw [← ho]; exact ⟨_, Array.mem_of_getElem? (i := 0) rfl, rfl, rfl⟩)
    have hs5 := hat5 51 (by rfl) (by simp)
    obtain ⟨A, n, c, rfl, hp⟩ := hv5
    have e1 : a.eval (.tmp 51) = .slice A n c := by simp [Act.eval, hs5]
    subst ho
    unfold Oper.wp
    go_simp
    exact ⟨_, rfl, ⟨_, _, _, rfl, built_par w' [rowZ, ⟨A, n, c, _⟩] 62 (by simp) (by simpa using ⟨IsForms.nil _, hp⟩)⟩, bel⟩
   ·simp only [List.getElem?_toArray, List.getElem?_cons_zero, List.getElem?_cons_succ, Option.some.injEq] at ho
    obtain ⟨v6, hv6, hat6⟩ := hs.1 6 (by rw [← ho]; exact ⟨_, Array.mem_of_getElem? (i := 0) rfl, rfl, rfl⟩)
    have hs6 := hat6 52 (by rfl) (by simp)
    obtain ⟨A, n, c, rfl, hp⟩ := hv6
    have e1 : a.eval (.tmp 52) = .slice A n c := by simp [Act.eval, hs6]
    subst ho
    unfold Oper.wp
    go_simp
    exact ⟨_, rfl, ⟨_, _, _, rfl, hp⟩, Below.refl _ _⟩
   ·simp only [List.getElem?_toArray, List.getElem?_cons_zero, List.getElem?_cons_succ, Option.some.injEq] at ho
    have hq := hs.2.1 1 (noDst_spec (by kernel_rfl))
    have e1 : a.eval (.tmp 1) = .pointer (some ⟨b1, 0, none⟩) := by simp [Act.eval, hq]
    obtain ⟨d0, d1, _, _⟩ := two_cells ((hb.block _ (lt_of_block k1)).trans k1)
    subst ho
    unfold Oper.wp
    go_simp
    exact ⟨_, rfl, ⟨⟨true, (A2, n2, c2, [(1, 1)])⟩, rfl, rfl, hx1.below hb rr⟩, Below.refl _ _⟩
   ·simp only [List.getElem?_toArray, List.getElem?_cons_zero, List.getElem?_cons_succ, Option.some.injEq] at ho
    obtain ⟨v8, hv8, hat8⟩ := hs.1 8 (by rw [← ho]; exact ⟨_, Array.mem_of_getElem? (i := 0) rfl, rfl, rfl⟩)
    have hs8 := hat8 54 (by rfl) (by simp)
    obtain ⟨r, rfl, hd, hp⟩ := hv8
    have e1 : a.eval (.tmp 54) = .agg #[.bool r.h, .slice r.p.1 r.p.2.1 r.p.2.2.1] := by simp [Act.eval, hs8, formV]
    subst ho
    unfold Oper.wp
    go_simp
    exact ⟨_, rfl, ⟨_, _, _, rfl, by have h := built_forms w' [r] 57 (by simp) (by simpa using hp); simp only [List.map_cons, List.map_nil, hd] at h; exact h⟩, bel⟩
   ·simp only [List.getElem?_toArray, List.getElem?_cons_zero, List.getElem?_cons_succ, Option.some.injEq] at ho
    subst ho
    unfold Oper.wp
    go_simp
    exact ⟨_, rfl, ⟨_, _, _, rfl, built_forms w' [] 57 (by simp) (by simp)⟩, bel⟩
   ·simp only [List.getElem?_toArray, List.getElem?_cons_zero, List.getElem?_cons_succ, Option.some.injEq] at ho
    obtain ⟨v9, hv9, hat9⟩ := hs.1 9 (by rw [← ho]; exact ⟨_, Array.mem_of_getElem? (i := 0) rfl, rfl, rfl⟩)
    have hs9 := hat9 55 (by rfl) (by simp)
    obtain ⟨v10, hv10, hat10⟩ := hs.1 10 (by rw [← ho]; exact ⟨_, Array.mem_of_getElem? (i := 1) rfl, rfl, rfl⟩)
    have hs10 := hat10 56 (by rfl) (by simp)
    obtain ⟨A, n, c, rfl, hp⟩ := hv9
    obtain ⟨A', n', c', rfl, hp'⟩ := hv10
    have e1 : a.eval (.tmp 55) = .slice A n c := by simp [Act.eval, hs9]
    have e2 : a.eval (.tmp 56) = .slice A' n' c' := by simp [Act.eval, hs10]
    subst ho
    unfold Oper.wp
    go_simp
    exact ⟨_, rfl, ⟨_, _, _, rfl, built_par w' [⟨A, n, c, _⟩, ⟨A', n', c', _⟩] 62 (by simp) (by simpa using ⟨hp, hp'⟩)⟩, bel⟩
   ·simp only [List.getElem?_toArray, List.getElem?_cons_zero, List.getElem?_cons_succ, Option.some.injEq] at ho
    obtain ⟨v11, hv11, hat11⟩ := hs.1 11 (by rw [← ho]; exact ⟨_, Array.mem_of_getElem? (i := 0) rfl, rfl, rfl⟩)
    have hs11 := hat11 57 (by rfl) (by simp)
    obtain ⟨A, n, c, rfl, hp⟩ := hv11
    have e1 : a.eval (.tmp 57) = .slice A n c := by simp [Act.eval, hs11]
    subst ho
    unfold Oper.wp
    go_simp
    exact ⟨_, rfl, ⟨_, _, _, rfl, hp⟩, Below.refl _ _⟩
   ·simp only [List.getElem?_toArray, List.getElem?_cons_zero, List.getElem?_cons_succ, Option.some.injEq] at ho
    have hq := hs.2.1 1 (noDst_spec (by kernel_rfl))
    have e1 : a.eval (.tmp 1) = .pointer (some ⟨b1, 0, none⟩) := by simp [Act.eval, hq]
    obtain ⟨d0, d1, _, _⟩ := two_cells ((hb.block _ (lt_of_block k1)).trans k1)
    subst ho
    unfold Oper.wp
    go_simp
    exact ⟨_, rfl, ⟨⟨true, (A2, n2, c2, [(1, 1)])⟩, rfl, rfl, hx1.below hb rr⟩, Below.refl _ _⟩
   ·simp only [List.getElem?_toArray, List.getElem?_cons_zero, List.getElem?_cons_succ, Option.some.injEq] at ho
    have hq := hs.2.1 3 (noDst_spec (by kernel_rfl))
    have e1 : a.eval (.tmp 3) = .pointer (some ⟨(W4.heap.size + 1), 0, none⟩) := by simp [Act.eval, hq]
    obtain ⟨d0, d1, _, _⟩ := two_cells ((hb.block _ (lt_of_block k3)).trans k3)
    subst ho
    unfold Oper.wp
    go_simp
    exact ⟨_, rfl, ⟨⟨false, (some ⟨W4.heap.size, 0, none⟩, 1, 1, [(2, 5)])⟩, rfl, rfl, hx3.below hb rr⟩, Below.refl _ _⟩
   ·simp only [List.getElem?_toArray, List.getElem?_cons_zero, List.getElem?_cons_succ, Option.some.injEq] at ho
    obtain ⟨v13, hv13, hat13⟩ := hs.1 13 (by rw [← ho]; exact ⟨_, Array.mem_of_getElem? (i := 0) rfl, rfl, rfl⟩)
    have hs13 := hat13 59 (by rfl) (by simp)
    obtain ⟨v14, hv14, hat14⟩ := hs.1 14 (by rw [← ho]; exact ⟨_, Array.mem_of_getElem? (i := 1) rfl, rfl, rfl⟩)
    have hs14 := hat14 60 (by rfl) (by simp)
    obtain ⟨r, rfl, hd, hp⟩ := hv13
    obtain ⟨r', rfl, hd', hp'⟩ := hv14
    have e1 : a.eval (.tmp 59) = .agg #[.bool r.h, .slice r.p.1 r.p.2.1 r.p.2.2.1] := by simp [Act.eval, hs13, formV]
    have e2 : a.eval (.tmp 60) = .agg #[.bool r'.h, .slice r'.p.1 r'.p.2.1 r'.p.2.2.1] := by simp [Act.eval, hs14, formV]
    subst ho
    unfold Oper.wp
    go_simp
    exact ⟨_, rfl, ⟨_, _, _, rfl, by have h := built_forms w' [r, r'] 57 (by simp) (by simpa using ⟨hp, hp'⟩); simp only [List.map_cons, List.map_nil, hd, hd'] at h; exact h⟩, bel⟩
   ·simp only [List.getElem?_toArray, List.getElem?_cons_zero, List.getElem?_cons_succ, Option.some.injEq] at ho
    obtain ⟨v15, hv15, hat15⟩ := hs.1 15 (by rw [← ho]; exact ⟨_, Array.mem_of_getElem? (i := 0) rfl, rfl, rfl⟩)
    have hs15 := hat15 61 (by rfl) (by simp)
    obtain ⟨A, n, c, rfl, hp⟩ := hv15
    have e1 : a.eval (.tmp 61) = .slice A n c := by simp [Act.eval, hs15]
    subst ho
    unfold Oper.wp
    go_simp
    exact ⟨_, rfl, ⟨_, _, _, rfl, built_par w' [⟨A, n, c, _⟩] 62 (by simp) (by simpa using hp)⟩, bel⟩
   ·simp only [List.getElem?_toArray, List.getElem?_cons_zero, List.getElem?_cons_succ, Option.some.injEq] at ho
    obtain ⟨v16, hv16, hat16⟩ := hs.1 16 (by rw [← ho]; exact ⟨_, Array.mem_of_getElem? (i := 0) rfl, rfl, rfl⟩)
    have hs16 := hat16 62 (by rfl) (by simp)
    obtain ⟨A, n, c, rfl, hp⟩ := hv16
    have e1 : a.eval (.tmp 62) = .slice A n c := by simp [Act.eval, hs16]
    subst ho
    unfold Oper.wp
    go_simp
    exact ⟨_, rfl, ⟨_, _, _, rfl, hp⟩, Below.refl _ _⟩
   ·simp only [List.getElem?_toArray, List.getElem?_cons_zero, List.getElem?_cons_succ, Option.some.injEq] at ho
    have hq := hs.2.1 1 (noDst_spec (by kernel_rfl))
    have e1 : a.eval (.tmp 1) = .pointer (some ⟨b1, 0, none⟩) := by simp [Act.eval, hq]
    obtain ⟨d0, d1, _, _⟩ := two_cells ((hb.block _ (lt_of_block k1)).trans k1)
    subst ho
    unfold Oper.wp
    go_simp
    exact ⟨_, rfl, ⟨⟨true, (A2, n2, c2, [(1, 1)])⟩, rfl, rfl, hx1.below hb rr⟩, Below.refl _ _⟩
   ·simp only [List.getElem?_toArray, List.getElem?_cons_zero, List.getElem?_cons_succ, Option.some.injEq] at ho
    have hq := hs.2.1 2 (noDst_spec (by kernel_rfl))
    have e1 : a.eval (.tmp 2) = .pointer (some ⟨b2, 0, none⟩) := by simp [Act.eval, hq]
    obtain ⟨d0, d1, _, _⟩ := two_cells ((hb.block _ (lt_of_block k2)).trans k2)
    subst ho
    unfold Oper.wp
    go_simp
    exact ⟨_, rfl, ⟨⟨true, (A4, n4, c4, List.replicate 33 (0, 0))⟩, rfl, rfl, hx2.below hb rr⟩, Below.refl _ _⟩
   ·simp only [List.getElem?_toArray, List.getElem?_cons_zero, List.getElem?_cons_succ, Option.some.injEq] at ho
    obtain ⟨v18, hv18, hat18⟩ := hs.1 18 (by rw [← ho]; exact ⟨_, Array.mem_of_getElem? (i := 0) rfl, rfl, rfl⟩)
    have hs18 := hat18 64 (by rfl) (by simp)
    obtain ⟨v19, hv19, hat19⟩ := hs.1 19 (by rw [← ho]; exact ⟨_, Array.mem_of_getElem? (i := 1) rfl, rfl, rfl⟩)
    have hs19 := hat19 65 (by rfl) (by simp)
    obtain ⟨r, rfl, hd, hp⟩ := hv18
    obtain ⟨r', rfl, hd', hp'⟩ := hv19
    have e1 : a.eval (.tmp 64) = .agg #[.bool r.h, .slice r.p.1 r.p.2.1 r.p.2.2.1] := by simp [Act.eval, hs18, formV]
    have e2 : a.eval (.tmp 65) = .agg #[.bool r'.h, .slice r'.p.1 r'.p.2.1 r'.p.2.2.1] := by simp [Act.eval, hs19, formV]
    subst ho
    unfold Oper.wp
    go_simp
    exact ⟨_, rfl, ⟨_, _, _, rfl, by have h := built_forms w' [r, r'] 57 (by simp) (by simpa using ⟨hp, hp'⟩); simp only [List.map_cons, List.map_nil, hd, hd'] at h; exact h⟩, bel⟩
   ·simp only [List.getElem?_toArray, List.getElem?_cons_zero, List.getElem?_cons_succ, Option.some.injEq] at ho
    obtain ⟨v20, hv20, hat20⟩ := hs.1 20 (by rw [← ho]; exact ⟨_, Array.mem_of_getElem? (i := 0) rfl, rfl, rfl⟩)
    have hs20 := hat20 66 (by rfl) (by simp)
    obtain ⟨A, n, c, rfl, hp⟩ := hv20
    have e1 : a.eval (.tmp 66) = .slice A n c := by simp [Act.eval, hs20]
    subst ho
    unfold Oper.wp
    go_simp
    exact ⟨_, rfl, ⟨_, _, _, rfl, built_par w' [⟨A, n, c, _⟩] 62 (by simp) (by simpa using hp)⟩, bel⟩
   ·simp only [List.getElem?_toArray, List.getElem?_cons_zero, List.getElem?_cons_succ, Option.some.injEq] at ho
    obtain ⟨v21, hv21, hat21⟩ := hs.1 21 (by rw [← ho]; exact ⟨_, Array.mem_of_getElem? (i := 0) rfl, rfl, rfl⟩)
    have hs21 := hat21 67 (by rfl) (by simp)
    obtain ⟨A, n, c, rfl, hp⟩ := hv21
    have e1 : a.eval (.tmp 67) = .slice A n c := by simp [Act.eval, hs21]
    subst ho
    unfold Oper.wp
    go_simp
    exact ⟨_, rfl, ⟨_, _, _, rfl, hp⟩, Below.refl _ _⟩
   ·simp only [List.getElem?_toArray, List.getElem?_cons_zero, List.getElem?_cons_succ, Option.some.injEq] at ho
    subst ho
    unfold Oper.wp
    go_simp
    refine (form29_c none 0 0 w').mono ?_
    rintro e w2 ⟨rfl, hb2⟩
    exact ⟨_, rfl, ⟨⟨true, (none, 0, 0, [])⟩, rfl, rfl, Cells.nil _ _⟩, hb2⟩
   ·simp only [List.getElem?_toArray, List.getElem?_cons_zero, List.getElem?_cons_succ, Option.some.injEq] at ho
    have hq := hs.2.1 2 (noDst_spec (by kernel_rfl))
    have e1 : a.eval (.tmp 2) = .pointer (some ⟨b2, 0, none⟩) := by simp [Act.eval, hq]
    obtain ⟨d0, d1, _, _⟩ := two_cells ((hb.block _ (lt_of_block k2)).trans k2)
    subst ho
    unfold Oper.wp
    go_simp
    exact ⟨_, rfl, ⟨⟨true, (A4, n4, c4, List.replicate 33 (0, 0))⟩, rfl, rfl, hx2.below hb rr⟩, Below.refl _ _⟩
   ·simp only [List.getElem?_toArray, List.getElem?_cons_zero, List.getElem?_cons_succ, Option.some.injEq] at ho
    obtain ⟨v23, hv23, hat23⟩ := hs.1 23 (by rw [← ho]; exact ⟨_, Array.mem_of_getElem? (i := 0) rfl, rfl, rfl⟩)
    have hs23 := hat23 69 (by rfl) (by simp)
    obtain ⟨v24, hv24, hat24⟩ := hs.1 24 (by rw [← ho]; exact ⟨_, Array.mem_of_getElem? (i := 1) rfl, rfl, rfl⟩)
    have hs24 := hat24 70 (by rfl) (by simp)
    obtain ⟨r, rfl, hd, hp⟩ := hv23
    obtain ⟨r', rfl, hd', hp'⟩ := hv24
    have e1 : a.eval (.tmp 69) = .agg #[.bool r.h, .slice r.p.1 r.p.2.1 r.p.2.2.1] := by simp [Act.eval, hs23, formV]
    have e2 : a.eval (.tmp 70) = .agg #[.bool r'.h, .slice r'.p.1 r'.p.2.1 r'.p.2.2.1] := by simp [Act.eval, hs24, formV]
    subst ho
    unfold Oper.wp
    go_simp
    exact ⟨_, rfl, ⟨_, _, _, rfl, by have h := built_forms w' [r, r'] 57 (by simp) (by simpa using ⟨hp, hp'⟩); simp only [List.map_cons, List.map_nil, hd, hd'] at h; exact h⟩, bel⟩
   ·simp only [List.getElem?_toArray, List.getElem?_cons_zero, List.getElem?_cons_succ, Option.some.injEq] at ho
    have hq := hs.2.1 1 (noDst_spec (by kernel_rfl))
    have e1 : a.eval (.tmp 1) = .pointer (some ⟨b1, 0, none⟩) := by simp [Act.eval, hq]
    obtain ⟨d0, d1, _, _⟩ := two_cells ((hb.block _ (lt_of_block k1)).trans k1)
    subst ho
    unfold Oper.wp
    go_simp
    exact ⟨_, rfl, ⟨⟨true, (A2, n2, c2, [(1, 1)])⟩, rfl, rfl, hx1.below hb rr⟩, Below.refl _ _⟩
   ·simp only [List.getElem?_toArray, List.getElem?_cons_zero, List.getElem?_cons_succ, Option.some.injEq] at ho
    subst ho
    unfold Oper.wp
    go_simp
    exact ⟨_, rfl, ⟨formZ, rfl, rfl, Cells.nil _ _⟩, Below.refl _ _⟩
   ·simp only [List.getElem?_toArray, List.getElem?_cons_zero, List.getElem?_cons_succ, Option.some.injEq] at ho
    obtain ⟨v26, hv26, hat26⟩ := hs.1 26 (by rw [← ho]; exact ⟨_, Array.mem_of_getElem? (i := 0) rfl, rfl, rfl⟩)
    have hs26 := hat26 72 (by rfl) (by simp)
    obtain ⟨v27, hv27, hat27⟩ := hs.1 27 (by rw [← ho]; exact ⟨_, Array.mem_of_getElem? (i := 1) rfl, rfl, rfl⟩)
    have hs27 := hat27 73 (by rfl) (by simp)
    obtain ⟨r, rfl, hd, hp⟩ := hv26
    obtain ⟨r', rfl, hd', hp'⟩ := hv27
    have e1 : a.eval (.tmp 72) = .agg #[.bool r.h, .slice r.p.1 r.p.2.1 r.p.2.2.1] := by simp [Act.eval, hs26, formV]
    have e2 : a.eval (.tmp 73) = .agg #[.bool r'.h, .slice r'.p.1 r'.p.2.1 r'.p.2.2.1] := by simp [Act.eval, hs27, formV]
    subst ho
    unfold Oper.wp
    go_simp
    exact ⟨_, rfl, ⟨_, _, _, rfl, by have h := built_forms w' [r, r'] 57 (by simp) (by simpa using ⟨hp, hp'⟩); simp only [List.map_cons, List.map_nil, hd, hd'] at h; exact h⟩, bel⟩
   ·simp only [List.getElem?_toArray, List.getElem?_cons_zero, List.getElem?_cons_succ, Option.some.injEq] at ho
    obtain ⟨v25, hv25, hat25⟩ := hs.1 25 (by rw [← ho]; exact ⟨_, Array.mem_of_getElem? (i := 0) rfl, rfl, rfl⟩)
    have hs25 := hat25 71 (by rfl) (by simp)
    obtain ⟨v28, hv28, hat28⟩ := hs.1 28 (by rw [← ho]; exact ⟨_, Array.mem_of_getElem? (i := 1) rfl, rfl, rfl⟩)
    have hs28 := hat28 74 (by rfl) (by simp)
    obtain ⟨A, n, c, rfl, hp⟩ := hv25
    obtain ⟨A', n', c', rfl, hp'⟩ := hv28
    have e1 : a.eval (.tmp 71) = .slice A n c := by simp [Act.eval, hs25]
    have e2 : a.eval (.tmp 74) = .slice A' n' c' := by simp [Act.eval, hs28]
    subst ho
    unfold Oper.wp
    go_simp
    exact ⟨_, rfl, ⟨_, _, _, rfl, built_par w' [⟨A, n, c, _⟩, ⟨A', n', c', _⟩] 62 (by simp) (by simpa using ⟨hp, hp'⟩)⟩, bel⟩
   ·simp only [List.getElem?_toArray, List.getElem?_cons_zero, List.getElem?_cons_succ, Option.some.injEq] at ho
    obtain ⟨v29, hv29, hat29⟩ := hs.1 29 (by rw [← ho]; exact ⟨_, Array.mem_of_getElem? (i := 0) rfl, rfl, rfl⟩)
    have hs29 := hat29 75 (by rfl) (by simp)
    obtain ⟨A, n, c, rfl, hp⟩ := hv29
    have e1 : a.eval (.tmp 75) = .slice A n c := by simp [Act.eval, hs29]
    subst ho
    unfold Oper.wp
    go_simp
    exact ⟨_, rfl, ⟨_, _, _, rfl, hp⟩, Below.refl _ _⟩
   ·simp only [List.getElem?_toArray, List.getElem?_cons_zero, List.getElem?_cons_succ, Option.some.injEq] at ho
    subst ho
    unfold Oper.wp
    have hmk : ∀ W : World, (Instr.makeSlice 62 (.int .i64 16) (.int .i64 16)).run Tryz.prog W = _ := run_mk_forms 16 (by omega)
    simp only [hmk]
    go_simp
    exact ⟨_, rfl, ⟨_, _, _, rfl, mk_forms _ 16 (by omega)⟩, bel⟩
   ·simp only [List.getElem?_toArray, List.getElem?_cons_zero, List.getElem?_cons_succ, Option.some.injEq] at ho
    obtain ⟨v31, hv31, hat31⟩ := hs.1 31 (by rw [← ho]; exact ⟨_, Array.mem_of_getElem? (i := 0) rfl, rfl, rfl⟩)
    have hs31 := hat31 77 (by rfl) (by simp)
    obtain ⟨A, n, c, rfl, hp⟩ := hv31
    have e1 : a.eval (.tmp 77) = .slice A n c := by simp [Act.eval, hs31]
    subst ho
    unfold Oper.wp
    go_simp
    exact ⟨_, rfl, ⟨_, _, _, rfl, built_par w' [⟨A, n, c, _⟩] 62 (by simp) (by simpa using hp)⟩, bel⟩
   ·simp only [List.getElem?_toArray, List.getElem?_cons_zero, List.getElem?_cons_succ, Option.some.injEq] at ho
    obtain ⟨v32, hv32, hat32⟩ := hs.1 32 (by rw [← ho]; exact ⟨_, Array.mem_of_getElem? (i := 0) rfl, rfl, rfl⟩)
    have hs32 := hat32 78 (by rfl) (by simp)
    obtain ⟨A, n, c, rfl, hp⟩ := hv32
    have e1 : a.eval (.tmp 78) = .slice A n c := by simp [Act.eval, hs32]
    subst ho
    unfold Oper.wp
    go_simp
    exact ⟨_, rfl, ⟨_, _, _, rfl, hp⟩, Below.refl _ _⟩
   ·simp only [List.getElem?_toArray, List.getElem?_cons_zero, List.getElem?_cons_succ, Option.some.injEq] at ho
    obtain ⟨v0, hv0, hat0⟩ := hs.1 0 (by rw [← ho]; exact ⟨_, Array.mem_of_getElem? (i := 0) rfl, rfl, rfl⟩)
    have hs0 := hat0 46 (by rfl) (by simp)
    obtain ⟨v2, hv2, hat2⟩ := hs.1 2 (by rw [← ho]; exact ⟨_, Array.mem_of_getElem? (i := 1) rfl, rfl, rfl⟩)
    have hs2 := hat2 48 (by rfl) (by simp)
    obtain ⟨v4, hv4, hat4⟩ := hs.1 4 (by rw [← ho]; exact ⟨_, Array.mem_of_getElem? (i := 2) rfl, rfl, rfl⟩)
    have hs4 := hat4 50 (by rfl) (by simp)
    obtain ⟨v7, hv7, hat7⟩ := hs.1 7 (by rw [← ho]; exact ⟨_, Array.mem_of_getElem? (i := 3) rfl, rfl, rfl⟩)
    have hs7 := hat7 53 (by rfl) (by simp)
    obtain ⟨v12, hv12, hat12⟩ := hs.1 12 (by rw [← ho]; exact ⟨_, Array.mem_of_getElem? (i := 4) rfl, rfl, rfl⟩)
    have hs12 := hat12 58 (by rfl) (by simp)
    obtain ⟨v17, hv17, hat17⟩ := hs.1 17 (by rw [← ho]; exact ⟨_, Array.mem_of_getElem? (i := 5) rfl, rfl, rfl⟩)
    have hs17 := hat17 63 (by rfl) (by simp)
    obtain ⟨v22, hv22, hat22⟩ := hs.1 22 (by rw [← ho]; exact ⟨_, Array.mem_of_getElem? (i := 6) rfl, rfl, rfl⟩)
    have hs22 := hat22 68 (by rfl) (by simp)
    obtain ⟨v30, hv30, hat30⟩ := hs.1 30 (by rw [← ho]; exact ⟨_, Array.mem_of_getElem? (i := 7) rfl, rfl, rfl⟩)
    have hs30 := hat30 76 (by rfl) (by simp)
    obtain ⟨v33, hv33, hat33⟩ := hs.1 33 (by rw [← ho]; exact ⟨_, Array.mem_of_getElem? (i := 8) rfl, rfl, rfl⟩)
    have hs33 := hat33 79 (by rfl) (by simp)
    obtain ⟨A10, n10, c10, rfl, hp0⟩ := hv0
    obtain ⟨A12, n12, c12, rfl, hp2⟩ := hv2
    obtain ⟨A14, n14, c14, rfl, hp4⟩ := hv4
    obtain ⟨A17, n17, c17, rfl, hp7⟩ := hv7
    obtain ⟨A22, n22, c22, rfl, hp12⟩ := hv12
    obtain ⟨A27, n27, c27, rfl, hp17⟩ := hv17
    obtain ⟨A32, n32, c32, rfl, hp22⟩ := hv22
    obtain ⟨A40, n40, c40, rfl, hp30⟩ := hv30
    obtain ⟨A43, n43, c43, rfl, hp33⟩ := hv33
    have e0 : a.eval (.tmp 46) = .agg #[.slice A10 n10 c10, .int .i64 0] := by simp [Act.eval, hs0]
    have e2 : a.eval (.tmp 48) = .agg #[.slice A12 n12 c12, .int .i64 0] := by simp [Act.eval, hs2]
    have e4 : a.eval (.tmp 50) = .agg #[.slice A14 n14 c14, .int .i64 12] := by simp [Act.eval, hs4]
    have e7 : a.eval (.tmp 53) = .agg #[.slice A17 n17 c17, .int .i64 12] := by simp [Act.eval, hs7]
    have e12 : a.eval (.tmp 58) = .agg #[.slice A22 n22 c22, .int .i64 2] := by simp [Act.eval, hs12]
    have e17 : a.eval (.tmp 63) = .agg #[.slice A27 n27 c27, .int .i64 2] := by simp [Act.eval, hs17]
    have e22 : a.eval (.tmp 68) = .agg #[.slice A32 n32 c32, .int .i64 14] := by simp [Act.eval, hs22]
    have e30 : a.eval (.tmp 76) = .agg #[.slice A40 n40 c40, .int .i64 11] := by simp [Act.eval, hs30]
    have e33 : a.eval (.tmp 79) = .agg #[.slice A43 n43 c43, .int .i64 0] := by simp [Act.eval, hs33]
    subst ho
    unfold Oper.wp
    go_simp
    exact ⟨_, rfl, ⟨_, _, rfl, built_cases w' [⟨A10, n10, c10, ([], 0)⟩, ⟨A12, n12, c12, ((List.replicate 64 []), 0)⟩, ⟨A14, n14, c14, ((List.replicate 65 []), 12)⟩, ⟨A17, n17, c17, ([[], List.replicate 17 (false, [])], 12)⟩, ⟨A22, n22, c22, ([[badF], []], 2)⟩, ⟨A27, n27, c27, ([[badF, wrongF]], 2)⟩, ⟨A32, n32, c32, ([[badF, longFm]], 14)⟩, ⟨A40, n40, c40, ([[(true, []), longFm], [badF, (false, [])]], 11)⟩, ⟨A43, n43, c43, ([List.replicate 16 (false, [])], 0)⟩] (by simp) (by simpa using ⟨hp0, hp2, hp4, hp7, hp12, hp17, hp22, hp30, hp33⟩)⟩, bel⟩
   ·simp only [List.getElem?_toArray, List.getElem?_cons_zero, List.getElem?_cons_succ, Option.some.injEq] at ho
    obtain ⟨v34, hv34, hat34⟩ := hs.1 34 (by rw [← ho]; exact ⟨_, Array.mem_of_getElem? (i := 0) rfl, rfl, rfl⟩)
    have hs34 := hat34 80 (by rfl) (by simp)
    obtain ⟨A, c, rfl, hp⟩ := hv34
    have e1 : a.eval (.tmp 80) = .slice A 9 c := by simp [Act.eval, hs34]
    subst ho
    unfold Oper.wp
    go_simp
    exact ⟨_, rfl, rfl, Below.refl _ _⟩
   ·simp only [List.getElem?_toArray, List.getElem?_cons_zero, List.getElem?_cons_succ, Option.some.injEq] at ho
    subst ho
    unfold Oper.wp
    go_simp
    exact ⟨_, rfl, rfl, Below.refl _ _⟩
  case hrest3 =>
   intro vs W6 hall hB6
   obtain ⟨A, c, e34, hcs⟩ := hall 34 (by decide)
   obtain e35 : vs 35 = .int .i64 9 := hall 35 (by decide)
   obtain e36 : vs 36 = .int .i64 0 := hall 36 (by decide)
   have hBw : Below w.heap.size w W6 := (HB3.out.trans (hB5.mono HB3.out.size)).trans (hB6.mono (HB3.out.trans (hB5.mono HB3.out.size)).size)
   simp only [putAll, dstOf, List.size_toArray, List.length_cons, List.length_nil, List.getElem?_toArray, List.getElem?_cons_zero, List.getElem?_cons_succ, Option.bind_some, Option.map_some, e34, e35, e36]
   have HCS : Hid (IsCases W6 A 9 c cases29) := hcs
   have HBW := hI hBw
   have J1 : Hid (W6.heap[b1]? = some (.cells #[.bool true, .slice A2 n2 c2] 57 (0, 0))) := (hB6.block _ (lt_of_block k1)).trans k1
   have J2 : Hid (W6.heap[b2]? = some (.cells #[.bool true, .slice A4 n4 c4] 57 (0, 0))) := (hB6.block _ (lt_of_block k2)).trans k2
   have J3 : Hid (IsWord W6 A2 n2 c2 [(1, 1)]) := hx1.below hB6 rr
   have J4 : Hid (IsWord W6 A4 n4 c4 (List.replicate 33 (0, 0))) := hx2.below hB6 rr
   clear hcs hBw hB6 hB5 k1 k2 k3 hx1 hx2 hx3 hall K1 K2 G2 G4 HB3 HB4 HNE e34 e35 e36
   generalize vs 0 = z0, vs 1 = z1, vs 2 = z2, vs 3 = z3, vs 4 = z4, vs 5 = z5, vs 6 = z6, vs 7 = z7, vs 8 = z8, vs 9 = z9
   go_simp
   go_wp2_with fail
   go_loopw [82] (fun vk wr => ∃ k : Nat, vk = .int .i64 k ∧ k ≤ 9 ∧ Below W6.heap.size W6 wr) (fun vk _ => 9 - (intOf vk).toNat)
   case atStart => exact ⟨0, rfl, Nat.zero_le _, Below.refl _ _⟩
   case round =>
    obtain ⟨k, rfl, hk, hB7⟩ := hrel
    by_cases hltk : k < 9
    ·have hk1 : (k : Int) < (9 : Int) := by omega
     obtain ⟨rs, hd, hrw, hpar⟩ := HCS.out
     obtain ⟨r, hr⟩ : ∃ r, rs[k]? = some r := ⟨rs[k]'(by rw [hrw.2]; exact hltk), List.getElem?_eq_getElem _⟩
     obtain ⟨b, off, rfl, hbb, hc⟩ := hrw.at_ CaseR.len (by decide) hr
     have e0 := (hB7.cell (p := ⟨b, off + (k * 2 + 0), none⟩) hbb).trans (hc 0 _ rfl)
     have e1 := (hB7.cell (p := ⟨b, off + (k * 2 + 1), none⟩) hbb).trans (hc 1 _ rfl)
     have hT := hpar r (List.mem_of_getElem? hr)
     have hE : parE r.d.1 = r.d.2 := cases29_ok _ (by rw [← hd]; exact List.mem_map_of_mem (List.mem_of_getElem? hr))
     have HMEM0 : r.d ∈ cases29 := by rw [← hd]; exact List.mem_map_of_mem (List.mem_of_getElem? hr)
     have HT1 := hI (hT.below hB7 rr)
     have HE1 := hI hE
     have HB7 := hI hB7
     clear hT hE hpar hrw hd hr hc hbb
     rw [Nat.add_zero] at e0
     rw [← Nat.add_assoc] at e1
     go_wp2_with fail
     have HMEM : Hid (r.d ∈ cases29) := HMEM0
     clear HMEM0
     have x1 : (wr.alloc (.cells #[.slice r.A r.n r.c, .int .i64 r.d.2] 61)).heap[wr.heap.size]? = some (.cells #[.slice r.A r.n r.c, .int .i64 r.d.2] 61 (0, 0)) := heap_new_at rfl
     have hb : Below wr.heap.size wr (wr.alloc (.cells #[.slice r.A r.n r.c, .int .i64 r.d.2] 61)) := bel
     generalize wr.alloc (.cells #[.slice r.A r.n r.c, .int .i64 r.d.2] 61) = W8 at *
     have X1 := hI x1; clear x1
     clear e0 e1
     replace HB7 := hI (HB7.out.trans (hb.mono HB7.out.size))
     replace HT1 := hI (HT1.out.below hb rr)
     clear hb
     obtain ⟨d0, d1, _, _⟩ := two_cells X1.out
     generalize wr.heap.size = bx at *
     generalize r.A = rA at *
     generalize r.n = rn at *
     generalize r.c = rc at *
     generalize r.d = rd at *
     obtain ⟨rT, re⟩ := rd
     simp only at HT1 HE1 X1 d1 HMEM
     obtain ⟨m1, m2, m3⟩ := cases29_a _ HMEM.out
     obtain ⟨m4, m5, m6⟩ := cases29_b _ HMEM.out
     have M1 := hI m1; have M2 := hI m2; have M3 := hI m3; have M4 := hI m4; have M5 := hI m5; have M6 := hI m6
     clear m1 m2 m3 m4 m5 m6
     refine (pStem_c _ _ _ rT 99 W8 HT1.out (by decide)).mono ?_
     rintro e W9 ⟨A9, n9, c9, rfl, _, hb, _⟩
     rw [M1.out]
     replace HB7 := hI (HB7.out.trans (hb.mono HB7.out.size))
     replace HT1 := hI (HT1.out.below hb rr)
     replace X1 := hI ((hb.block _ (lt_of_block X1.out)).trans X1.out)
     clear hb
     try clear d0 d1
     obtain ⟨d0, d1, _, _⟩ := two_cells X1.out
     go_wp2_with fail
     refine (pEndings_c _ _ _ rT (-1) W9 HT1.out (by decide)).mono ?_
     rintro e W10 ⟨A10, n10, c10, rfl, _, hb⟩
     rw [M2.out]
     replace HB7 := hI (HB7.out.trans (hb.mono HB7.out.size))
     replace HT1 := hI (HT1.out.below hb rr)
     replace X1 := hI ((hb.block _ (lt_of_block X1.out)).trans X1.out)
     clear hb
     try clear d0 d1
     obtain ⟨d0, d1, _, _⟩ := two_cells X1.out
     go_wp2_with fail
     refine (pSame_c _ _ _ rT 64 W10 HT1.out (by decide)).mono ?_
     rintro e W11 ⟨A11, n11, c11, rfl, _, hb⟩
     rw [M3.out]
     replace HB7 := hI (HB7.out.trans (hb.mono HB7.out.size))
     replace HT1 := hI (HT1.out.below hb rr)
     replace X1 := hI ((hb.block _ (lt_of_block X1.out)).trans X1.out)
     clear hb
     try clear d0 d1
     obtain ⟨d0, d1, _, _⟩ := two_cells X1.out
     go_wp2_with fail
     refine (pGrades_c _ _ _ rT 64 16777216 0 W11 HT1.out (by decide)).mono ?_
     rintro e W12 ⟨A12, n12, c12, rfl, _, hb⟩
     rw [M4.out]
     replace HB7 := hI (HB7.out.trans (hb.mono HB7.out.size))
     replace HT1 := hI (HT1.out.below hb rr)
     replace X1 := hI ((hb.block _ (lt_of_block X1.out)).trans X1.out)
     clear hb
     try clear d0 d1
     obtain ⟨d0, d1, _, _⟩ := two_cells X1.out
     go_wp2_with fail
     refine (pClasses_c _ _ _ rT W12 HT1.out).mono ?_
     rintro e W13 ⟨A13, n13, c13, rfl, _, hb⟩
     rw [M5.out]
     replace HB7 := hI (HB7.out.trans (hb.mono HB7.out.size))
     replace HT1 := hI (HT1.out.below hb rr)
     replace X1 := hI ((hb.block _ (lt_of_block X1.out)).trans X1.out)
     clear hb
     try clear d0 d1
     obtain ⟨d0, d1, _, _⟩ := two_cells X1.out
     go_wp2_with fail
     obtain ⟨MC, hMC⟩ : ∃ MC : Array Value, MC = ((List.replicate 65 lawZR).flatMap LawR.cells).toArray := ⟨_, rfl⟩
     have hmk : ∀ W : World, (Instr.makeSlice 35 (.int .i64 65) (.int .i64 65)).run Tryz.prog W = .ok (.slice (some ⟨W.heap.size, 0, none⟩) 65 65) (W.alloc (.cells MC 34)) := by
      intro W; rw [hMC]; exact run_mk_laws 65 (by omega) W
     have hml : ∀ W : World, IsLaws (W.alloc (.cells MC 34)) (some ⟨W.heap.size, 0, none⟩) 65 65 (List.replicate 65 lawZR) := by
      intro W; rw [hMC]; exact mk_laws W 65 (by omega)
     have HML := hI hml; clear hml hMC
     have hS : W13.drew.cell? ⟨bx, 0, none⟩ = some (.slice rA rn rc) := d0
     refine plain_region (fun W' => W'.cell? ⟨bx, 0, none⟩ = some (.slice rA rn rc)) (by kernel_rfl) hS (fun hHeld => ?_)
     (refine' anyT_tk 0 rfl ?_; (try simp only [Act.put, nY, nX])); (refine' anyT_tk 1 rfl ?_; (try simp only [Act.put, nY, nX]))
     (refine anyT_sp 2 rfl (fun K' hK' => ?_); simp only [nY]; go_simp)
     have hb : Below W13.heap.size W13 (W13.alloc (.cells MC 34)).drew := ((Below.refl W13.heap.size W13).alloc rr _).drew
     have hlaw : IsLaws (W13.alloc (.cells MC 34)).drew (some ⟨W13.heap.size, 0, none⟩) 65 65 (List.replicate 65 lawZR) := (HML.out W13).below (Below.refl (W13.alloc (.cells MC 34)).heap.size _).drew rr
     replace HB7 := hI (HB7.out.trans (hb.mono HB7.out.size))
     replace HT1 := hI (HT1.out.below hb rr)
     replace X1 := hI ((hb.block _ (lt_of_block X1.out)).trans X1.out)
     clear hb
     try clear d0 d1
     obtain ⟨d0, d1, _, _⟩ := two_cells X1.out
     generalize (W13.alloc (.cells MC 34)).drew = W14 at *
     refine hK' _ _ ⟨.inr d0, fun _ => ?_⟩
     clear hK' K' hHeld hS
     (try simp only [Act.put, nY, nX])
     have HLAW := hI hlaw; clear hlaw hmk
     (refine anyT_sp 3 rfl (fun K' hK' => ?_); simp only [nY]; go_simp)
     refine (pDerive_c _ _ _ rT _ 65 65 (List.replicate 65 lawZR) W14 HT1.out HLAW.out (HT.out.below ((HBW.out).trans (HB7.out.mono HBW.out.size)) rr)).mono ?_
     rintro e W15 ⟨A15, n15, c15, rfl, _, hb⟩
     rw [show (pDerM rT (lawsD (List.replicate 65 lawZR))).1 = 12 by unfold pDerM; rw [laws65 65 (by omega)]; rfl]
     replace HB7 := hI (HB7.out.trans (hb.mono HB7.out.size))
     replace HT1 := hI (HT1.out.below hb rr)
     replace X1 := hI ((hb.block _ (lt_of_block X1.out)).trans X1.out)
     clear hb
     try clear d0 d1
     obtain ⟨d0, d1, _, _⟩ := two_cells X1.out
     refine hK' _ _ ⟨.inr d0, fun _ => ?_⟩
     clear hK' K' HLAW
     (try simp only [Act.put, nY, nX])
     (refine' anyT_tk 4 rfl ?_; (try simp only [Act.put, nY, nX])); (refine' anyT_tk 5 rfl ?_; (try simp only [Act.put, nY, nX])); (refine' anyT_tk 6 rfl ?_; (try simp only [Act.put, nY, nX])); (refine' anyT_tk 7 rfl ?_; (try simp only [Act.put, nY, nX]))
     (refine anyT_sp 8 rfl (fun K' hK' => ?_); simp only [nY]; go_simp)
     refine hK' _ _ ⟨.inl (by kernel_rfl), fun _ => anyT_done (by kernel_rfl) ?_ _⟩
     clear hK' K'
     go_wp2_with fail
     refine (pDerive_c _ _ _ rT none 0 0 [] W15 HT1.out ⟨⟨Cells.nil _ _, rfl⟩, fun x hx => by cases hx⟩ (HT.out.below ((HBW.out).trans (HB7.out.mono HBW.out.size)) rr)).mono ?_
     rintro e W16 ⟨A16, n16, c16, rfl, _, hb⟩
     rw [show (pDerM rT (lawsD [])).1 = re from M6.out]
     replace HB7 := hI (HB7.out.trans (hb.mono HB7.out.size))
     replace HT1 := hI (HT1.out.below hb rr)
     replace X1 := hI ((hb.block _ (lt_of_block X1.out)).trans X1.out)
     clear hb
     try clear d0 d1
     obtain ⟨d0, d1, _, _⟩ := two_cells X1.out
     go_wp2_with fail
     have hS : W16.drew.cell? ⟨bx, 0, none⟩ = some (.slice rA rn rc) ∧ W16.drew.cell? ⟨bx, 1, none⟩ = some (.int .i64 re) := ⟨d0, d1⟩
     refine plain_region (fun W' => W'.cell? ⟨bx, 0, none⟩ = some (.slice rA rn rc) ∧ W'.cell? ⟨bx, 1, none⟩ = some (.int .i64 re)) (by kernel_rfl) hS (fun hHeld => ?_)
     (refine' anyT_tk 0 rfl ?_; (try simp only [Act.put, nY, nX])); (refine' anyT_tk 1 rfl ?_; (try simp only [Act.put, nY, nX])); (refine' anyT_tk 3 rfl ?_; (try simp only [Act.put, nY, nX])); (refine' anyT_tk 4 rfl ?_; (try simp only [Act.put, nY, nX]))
     (refine anyT_sp 2 rfl (fun K' hK' => ?_); simp only [nY]; go_simp)
     have hb : Below W16.heap.size W16 W16.drew := (Below.refl W16.heap.size W16).drew
     clear hHeld hS
     replace HB7 := hI (HB7.out.trans (hb.mono HB7.out.size))
     replace HT1 := hI (HT1.out.below hb rr)
     replace X1 := hI ((hb.block _ (lt_of_block X1.out)).trans X1.out)
     clear hb
     try clear d0 d1
     obtain ⟨d0, d1, _, _⟩ := two_cells X1.out
     refine (pCheck_c _ _ _ rT W16.drew HT1.out).mono ?_
     rintro e W17 ⟨rfl, hb⟩
     rw [HE1.out]
     replace HB7 := hI (HB7.out.trans (hb.mono HB7.out.size))
     replace HT1 := hI (HT1.out.below hb rr)
     replace X1 := hI ((hb.block _ (lt_of_block X1.out)).trans X1.out)
     clear hb
     try clear d0 d1
     obtain ⟨d0, d1, _, _⟩ := two_cells X1.out
     have hS : W17.cell? ⟨bx, 0, none⟩ = some (.slice rA rn rc) ∧ W17.cell? ⟨bx, 1, none⟩ = some (.int .i64 re) := ⟨d0, d1⟩
     refine hK' _ _ ⟨.inr hS, fun _ => ?_⟩
     clear hK' K'
     (try simp only [Act.put, nY, nX])
     (refine' anyT_tk 5 rfl ?_; (try simp only [Act.put, nY, nX])); (refine' anyT_tk 6 rfl ?_; (try simp only [Act.put, nY, nX])); (refine' anyT_tk 7 rfl ?_; (try simp only [Act.put, nY, nX])); (refine' anyT_tk 8 rfl ?_; (try simp only [Act.put, nY, nX])); (refine' anyT_tk 9 rfl ?_; (try simp only [Act.put, nY, nX])); (refine' anyT_tk 10 rfl ?_; (try simp only [Act.put, nY, nX])); (refine' anyT_tk 11 rfl ?_; (try simp only [Act.put, nY, nX])); (refine' anyT_tk 12 rfl ?_; (try simp only [Act.put, nY, nX])); (refine' anyT_tk 13 rfl ?_; (try simp only [Act.put, nY, nX])); (refine' anyT_tk 14 rfl ?_; (try simp only [Act.put, nY, nX])); (refine' anyT_tk 15 rfl ?_; (try simp only [Act.put, nY, nX])); (refine' anyT_tk 16 rfl ?_; (try simp only [Act.put, nY, nX])); (refine' anyT_tk 17 rfl ?_; (try simp only [Act.put, nY, nX])); (refine' anyT_tk 18 rfl ?_; (try simp only [Act.put, nY, nX])); (refine' anyT_tk 19 rfl ?_; (try simp only [Act.put, nY, nX])); (refine' anyT_tk 20 rfl ?_; (try simp only [Act.put, nY, nX]))
     (refine anyT_sp 21 rfl (fun K' hK' => ?_); simp only [nY]; go_simp)
     refine hK' _ _ ⟨.inl (by kernel_rfl), fun _ => anyT_done (by kernel_rfl) ?_ _⟩
     clear hK' K' hS
     by_cases hre : re = 0
     ·subst hre
      rw [show caseE 0 3 = 3 from rfl, show caseE 0 14 = 14 from rfl]
      go_wp2
      go_roundw
      case rel => exact ⟨k + 1, by go_num, by omega, HB7.out⟩
      case measure => simp [intOf]; omega
     ·have hre0 : (re == 0) = false := by simpa using hre
      have hre1 : (re != 0) = true := by simpa using hre
      rw [show caseE re 3 = re from if_neg hre, show caseE re 14 = re from if_neg hre]
      go_wp2
      go_roundw
      case rel => exact ⟨k + 1, by go_num, by omega, HB7.out⟩
      case measure => simp [intOf]; omega
    ·obtain rfl : k = 9 := by omega
     have HBF : Hid (Below w.heap.size w wr) := HBW.out.trans (hB7.mono HBW.out.size)
     have N1 : Hid (wr.heap[b1]? = some (.cells #[.bool true, .slice A2 n2 c2] 57 (0, 0))) := (hB7.block _ (lt_of_block J1.out)).trans J1.out
     have N2 : Hid (wr.heap[b2]? = some (.cells #[.bool true, .slice A4 n4 c4] 57 (0, 0))) := (hB7.block _ (lt_of_block J2.out)).trans J2.out
     have N3 : Hid (IsWord wr A2 n2 c2 [(1, 1)]) := J3.out.below hB7 rr
     have N4 : Hid (IsWord wr A4 n4 c4 (List.replicate 33 (0, 0))) := J4.out.below hB7 rr
     clear hB7 HCS HBW J1 J2 J3 J4
     obtain ⟨MF, hMF⟩ : ∃ MF : Array Value, MF = ((List.replicate 2 formZ).flatMap FormR.cells).toArray := ⟨_, rfl⟩
     have hmk : ∀ W : World, (Instr.makeSlice 62 (.int .i64 2) (.int .i64 2)).run Tryz.prog W = .ok (.slice (some ⟨W.heap.size, 0, none⟩) 2 2) (W.alloc (.cells MF 57)) := by
      intro W; rw [hMF]; exact run_mk_forms 2 (by omega) W
     have hmf : ∀ W : World, IsForms (W.alloc (.cells MF 57)) (some ⟨W.heap.size, 0, none⟩) 2 2 (List.replicate 2 (false, [])) := by
      intro W; rw [hMF]; exact mk_forms W 2 (by omega)
     clear hMF
     go_wp2_with fail
     have hb : Below wr.heap.size wr ((wr.alloc (.cells MF 57)).alloc (.cells #[.slice (some ⟨wr.heap.size, 0, none⟩) 2 2] 62)) := bel
     have hp : IsPar ((wr.alloc (.cells MF 57)).alloc (.cells #[.slice (some ⟨wr.heap.size, 0, none⟩) 2 2] 62)) (some ⟨wr.heap.size + 1, 0, none⟩) 1 1 [List.replicate 2 (false, [])] := by
      have h := built_par (wr.alloc (.cells MF 57)) [⟨some ⟨wr.heap.size, 0, none⟩, 2, 2, List.replicate 2 (false, [])⟩] 62 (by simp) (fun r hr => by
       obtain rfl : r = _ := List.mem_singleton.1 hr
       exact hmf wr)
      rw [World.size_alloc] at h
      exact h
     have HP := hI hp
     clear hmk hmf hp
     replace HBF := hI (HBF.out.trans (hb.mono HBF.out.size))
     replace N1 := hI ((hb.block _ (lt_of_block N1.out)).trans N1.out)
     replace N2 := hI ((hb.block _ (lt_of_block N2.out)).trans N2.out)
     replace N3 := hI (N3.out.below hb rr)
     replace N4 := hI (N4.out.below hb rr)
     try replace P17 := hI (P17.out.below hb rr)
     clear hb
     try clear d0 d1 d2 d3 hl1 hl2
     obtain ⟨d0, d1, _, _⟩ := two_cells N1.out
     obtain ⟨d2, d3, _, _⟩ := two_cells N2.out
     have hl1 := lt_of_block N1.out
     have hl2 := lt_of_block N2.out
     generalize (wr.alloc (.cells MF 57)).alloc (.cells #[.slice (some ⟨wr.heap.size, 0, none⟩) 2 2] 62) = w9 at *
     clear MF
     refine (pStem_c _ 1 1 [List.replicate 2 (false, [])] 0 w9 HP.out (by decide)).mono ?_
     rw [show pStemM [List.replicate 2 (false, [])] 0 = (5, []) from by decide +kernel]
     rintro e W10 ⟨A10, n10, c10, rfl, _, hb, _⟩
     replace HBF := hI (HBF.out.trans (hb.mono HBF.out.size))
     replace N1 := hI ((hb.block _ (lt_of_block N1.out)).trans N1.out)
     replace N2 := hI ((hb.block _ (lt_of_block N2.out)).trans N2.out)
     replace N3 := hI (N3.out.below hb rr)
     replace N4 := hI (N4.out.below hb rr)
     try replace P17 := hI (P17.out.below hb rr)
     clear hb
     try clear d0 d1 d2 d3 hl1 hl2
     obtain ⟨d0, d1, _, _⟩ := two_cells N1.out
     obtain ⟨d2, d3, _, _⟩ := two_cells N2.out
     have hl1 := lt_of_block N1.out
     have hl2 := lt_of_block N2.out
     obtain ⟨MF, hMF⟩ : ∃ MF : Array Value, MF = ((List.replicate 2 formZ).flatMap FormR.cells).toArray := ⟨_, rfl⟩
     have hmk : ∀ W : World, (Instr.makeSlice 62 (.int .i64 2) (.int .i64 2)).run Tryz.prog W = .ok (.slice (some ⟨W.heap.size, 0, none⟩) 2 2) (W.alloc (.cells MF 57)) := by
      intro W; rw [hMF]; exact run_mk_forms 2 (by omega) W
     have hmf : ∀ W : World, IsForms (W.alloc (.cells MF 57)) (some ⟨W.heap.size, 0, none⟩) 2 2 (List.replicate 2 (false, [])) := by
      intro W; rw [hMF]; exact mk_forms W 2 (by omega)
     clear hMF
     go_wp2_with fail
     have hb : Below W10.heap.size W10 ((W10.alloc (.cells MF 57)).alloc (.cells #[.slice (some ⟨W10.heap.size, 0, none⟩) 2 2] 62)) := bel
     have hp : IsPar ((W10.alloc (.cells MF 57)).alloc (.cells #[.slice (some ⟨W10.heap.size, 0, none⟩) 2 2] 62)) (some ⟨W10.heap.size + 1, 0, none⟩) 1 1 [List.replicate 2 (false, [])] := by
      have h := built_par (W10.alloc (.cells MF 57)) [⟨some ⟨W10.heap.size, 0, none⟩, 2, 2, List.replicate 2 (false, [])⟩] 62 (by simp) (fun r hr => by
       obtain rfl : r = _ := List.mem_singleton.1 hr
       exact hmf W10)
      rw [World.size_alloc] at h
      exact h
     have HP := hI hp
     clear hmk hmf hp
     replace HBF := hI (HBF.out.trans (hb.mono HBF.out.size))
     replace N1 := hI ((hb.block _ (lt_of_block N1.out)).trans N1.out)
     replace N2 := hI ((hb.block _ (lt_of_block N2.out)).trans N2.out)
     replace N3 := hI (N3.out.below hb rr)
     replace N4 := hI (N4.out.below hb rr)
     try replace P17 := hI (P17.out.below hb rr)
     clear hb
     try clear d0 d1 d2 d3 hl1 hl2
     obtain ⟨d0, d1, _, _⟩ := two_cells N1.out
     obtain ⟨d2, d3, _, _⟩ := two_cells N2.out
     have hl1 := lt_of_block N1.out
     have hl2 := lt_of_block N2.out
     generalize (W10.alloc (.cells MF 57)).alloc (.cells #[.slice (some ⟨W10.heap.size, 0, none⟩) 2 2] 62) = w11 at *
     clear MF
     refine (pEndings_c _ 1 1 [List.replicate 2 (false, [])] 0 w11 HP.out (by decide)).mono ?_
     rw [show pEndsM [List.replicate 2 (false, [])] 0 = (5, []) from by decide +kernel]
     rintro e W12 ⟨A12, n12, c12, rfl, _, hb⟩
     replace HBF := hI (HBF.out.trans (hb.mono HBF.out.size))
     replace N1 := hI ((hb.block _ (lt_of_block N1.out)).trans N1.out)
     replace N2 := hI ((hb.block _ (lt_of_block N2.out)).trans N2.out)
     replace N3 := hI (N3.out.below hb rr)
     replace N4 := hI (N4.out.below hb rr)
     try replace P17 := hI (P17.out.below hb rr)
     clear hb
     try clear d0 d1 d2 d3 hl1 hl2
     obtain ⟨d0, d1, _, _⟩ := two_cells N1.out
     obtain ⟨d2, d3, _, _⟩ := two_cells N2.out
     have hl1 := lt_of_block N1.out
     have hl2 := lt_of_block N2.out
     obtain ⟨MF, hMF⟩ : ∃ MF : Array Value, MF = ((List.replicate 65 wordZ).map Part.val).toArray := ⟨_, rfl⟩
     have hmk : ∀ W : World, (Instr.makeSlice 46 (.int .i64 65) (.int .i64 65)).run Tryz.prog W = .ok (.slice (some ⟨W.heap.size, 0, none⟩) 65 65) (W.alloc (.cells MF 32)) := by
      intro W; rw [hMF]; exact run_mk_words 65 (by omega) W
     have hmf : ∀ W : World, IsWords (W.alloc (.cells MF 32)) (some ⟨W.heap.size, 0, none⟩) 65 65 (List.replicate 65 []) := by
      intro W; rw [hMF]; exact mk_words W 65 (by omega)
     clear hMF
     go_wp2_with fail
     have hb : Below W12.heap.size W12 (W12.alloc (.cells MF 32)) := bel
     refine (pBuild_c _ 65 65 (List.replicate 65 []) none 0 0 [] _ (hmf W12) (IsPar.nil _)).mono ?_
     rw [show pBuildM (List.replicate 65 []) [] = (12, []) from by decide +kernel]
     rintro e W13 ⟨A13, n13, c13, rfl, _, hb2⟩
     replace hb := hb.trans (hb2.mono hb.size)
     clear hmk hmf hb2
     replace HBF := hI (HBF.out.trans (hb.mono HBF.out.size))
     replace N1 := hI ((hb.block _ (lt_of_block N1.out)).trans N1.out)
     replace N2 := hI ((hb.block _ (lt_of_block N2.out)).trans N2.out)
     replace N3 := hI (N3.out.below hb rr)
     replace N4 := hI (N4.out.below hb rr)
     try replace P17 := hI (P17.out.below hb rr)
     clear hb
     try clear d0 d1 d2 d3 hl1 hl2
     obtain ⟨d0, d1, _, _⟩ := two_cells N1.out
     obtain ⟨d2, d3, _, _⟩ := two_cells N2.out
     have hl1 := lt_of_block N1.out
     have hl2 := lt_of_block N2.out
     go_wp2_with fail
     obtain ⟨V, hV⟩ : ∃ V, V = (((W13.alloc (.cells #[.slice A2 n2 c2] 32)).alloc (.cells #[.bool true, .slice A4 n4 c4] 57)).alloc (.cells #[] 57)).alloc (.cells #[.slice (some ⟨W13.heap.size + 1, 0, none⟩) 1 1, .slice (some ⟨W13.heap.size + 2, 0, none⟩) 0 0] 62) := ⟨_, rfl⟩
     have hb : Below W13.heap.size W13 V := by rw [hV]; exact bel
     have hy : IsWords V (some ⟨W13.heap.size, 0, none⟩) 1 1 [[(1, 1)]] := by
      rw [hV]
      exact (built_words W13 [(A2, n2, c2, [(1, 1)])] 32 (by simp) (fun p hp => by obtain rfl : p = _ := List.mem_singleton.1 hp; exact N3.out)).below (B := W13.heap.size + 1) bel (by simp)
     have hp : IsPar V (some ⟨W13.heap.size + 3, 0, none⟩) 2 2 [[longFm], []] := by
      have h1 := built_forms (W13.alloc (.cells #[.slice A2 n2 c2] 32)) [⟨true, (A4, n4, c4, List.replicate 33 (0, 0))⟩] 57 (by simp) (fun f hf => by
       obtain rfl : f = _ := List.mem_singleton.1 hf
       exact N4.out.below (B := W13.heap.size) bel rr)
      have h2 := built_forms ((W13.alloc (.cells #[.slice A2 n2 c2] 32)).alloc (.cells #[.bool true, .slice A4 n4 c4] 57)) [] 57 (by simp) (by simp)
      rw [World.size_alloc] at h1
      rw [World.size_alloc, World.size_alloc] at h2
      have h3 := built_par (((W13.alloc (.cells #[.slice A2 n2 c2] 32)).alloc (.cells #[.bool true, .slice A4 n4 c4] 57)).alloc (.cells #[] 57)) [⟨some ⟨W13.heap.size + 1, 0, none⟩, 1, 1, [longFm]⟩, ⟨some ⟨W13.heap.size + 2, 0, none⟩, 0, 0, []⟩] 62 (by simp) (fun r hr => by
       simp only [List.mem_cons, List.not_mem_nil, or_false] at hr
       rcases hr with rfl | rfl
       ·exact IsForms.below h1 (B := W13.heap.size + 2) bel (by simp)
       ·exact h2)
      rw [World.size_alloc, World.size_alloc, World.size_alloc] at h3
      rw [hV]
      exact h3
     rw [← hV]
     clear hV
     refine (pBuild_c _ 1 1 [[(1, 1)]] _ 2 2 [[longFm], []] V hy hp).mono ?_
     rw [show pBuildM [[(1, 1)]] [[longFm], []] = (2, []) from by decide +kernel]
     rintro e W14 ⟨A14, n14, c14, rfl, _, hb2⟩
     replace hb := hb.trans (hb2.mono hb.size)
     clear hy hp hb2
     replace HBF := hI (HBF.out.trans (hb.mono HBF.out.size))
     replace N1 := hI ((hb.block _ (lt_of_block N1.out)).trans N1.out)
     replace N2 := hI ((hb.block _ (lt_of_block N2.out)).trans N2.out)
     replace N3 := hI (N3.out.below hb rr)
     replace N4 := hI (N4.out.below hb rr)
     try replace P17 := hI (P17.out.below hb rr)
     clear hb
     try clear d0 d1 d2 d3 hl1 hl2
     obtain ⟨d0, d1, _, _⟩ := two_cells N1.out
     obtain ⟨d2, d3, _, _⟩ := two_cells N2.out
     have hl1 := lt_of_block N1.out
     have hl2 := lt_of_block N2.out
     go_wp2_with fail
     obtain ⟨V, hV⟩ : ∃ V, V = ((W14.alloc (.cells #[.slice A2 n2 c2] 32)).alloc (.cells #[.bool true, .slice A4 n4 c4] 57)).alloc (.cells #[.slice (some ⟨W14.heap.size + 1, 0, none⟩) 1 1] 62) := ⟨_, rfl⟩
     have hb : Below W14.heap.size W14 V := by rw [hV]; exact bel
     have hy : IsWords V (some ⟨W14.heap.size, 0, none⟩) 1 1 [[(1, 1)]] := by
      rw [hV]
      exact (built_words W14 [(A2, n2, c2, [(1, 1)])] 32 (by simp) (fun p hp => by obtain rfl : p = _ := List.mem_singleton.1 hp; exact N3.out)).below (B := W14.heap.size + 1) bel (by simp)
     have hp : IsPar V (some ⟨W14.heap.size + 2, 0, none⟩) 1 1 [[longFm]] := by
      have h1 := built_forms (W14.alloc (.cells #[.slice A2 n2 c2] 32)) [⟨true, (A4, n4, c4, List.replicate 33 (0, 0))⟩] 57 (by simp) (fun f hf => by
       obtain rfl : f = _ := List.mem_singleton.1 hf
       exact N4.out.below (B := W14.heap.size) bel rr)
      rw [World.size_alloc] at h1
      have h3 := built_par ((W14.alloc (.cells #[.slice A2 n2 c2] 32)).alloc (.cells #[.bool true, .slice A4 n4 c4] 57)) [⟨some ⟨W14.heap.size + 1, 0, none⟩, 1, 1, [longFm]⟩] 62 (by simp) (fun r hr => by
       obtain rfl : r = _ := List.mem_singleton.1 hr
       exact h1)
      rw [World.size_alloc, World.size_alloc] at h3
      rw [hV]
      exact h3
     rw [← hV]
     clear hV
     refine (pBuild_c _ 1 1 [[(1, 1)]] _ 1 1 [[longFm]] V hy hp).mono ?_
     rw [show pBuildM [[(1, 1)]] [[longFm]] = (14, []) from by decide +kernel]
     rintro e W15 ⟨A15, n15, c15, rfl, _, hb2⟩
     replace hb := hb.trans (hb2.mono hb.size)
     clear hy hp hb2
     replace HBF := hI (HBF.out.trans (hb.mono HBF.out.size))
     replace N1 := hI ((hb.block _ (lt_of_block N1.out)).trans N1.out)
     replace N2 := hI ((hb.block _ (lt_of_block N2.out)).trans N2.out)
     replace N3 := hI (N3.out.below hb rr)
     replace N4 := hI (N4.out.below hb rr)
     try replace P17 := hI (P17.out.below hb rr)
     clear hb
     try clear d0 d1 d2 d3 hl1 hl2
     obtain ⟨d0, d1, _, _⟩ := two_cells N1.out
     obtain ⟨d2, d3, _, _⟩ := two_cells N2.out
     have hl1 := lt_of_block N1.out
     have hl2 := lt_of_block N2.out
     go_wp2_with fail
     refine region_inv (by kernel_rfl) (by kernel_rfl) phi23 _ _ (fun j v w w' h hb => phi23_below h hb) ?hstep23 ?hrest23
     case hstep23 =>
      intro i o ho a w' hs hb
      have hi17 : i < 17 := (Array.getElem?_eq_some_iff.1 ho).1
      have hi : i = 0 ∨ i = 1 ∨ i = 2 ∨ i = 3 ∨ i = 4 ∨ i = 5 ∨ i = 6 ∨ i = 7 ∨ i = 8 ∨ i = 9 ∨ i = 10 ∨ i = 11 ∨ i = 12 ∨ i = 13 ∨ i = 14 ∨ i = 15 ∨ i = 16 := by omega
      clear hi17
      rcases hi with rfl | rfl | rfl | rfl | rfl | rfl | rfl | rfl | rfl | rfl | rfl | rfl | rfl | rfl | rfl | rfl | rfl
      ·simp only [List.getElem?_toArray, List.getElem?_cons_zero, List.getElem?_cons_succ, Option.some.injEq] at ho
       subst ho
       unfold Oper.wp
       have hmk : ∀ W : World, (Instr.makeSlice 32 (.int .i64 31) (.int .i64 31)).run Tryz.prog W = _ := run_make_snds 31 (by omega)
       simp only [hmk]
       go_simp
       exact ⟨_, rfl, ⟨_, _, _, rfl, (wordS_new w' (List.replicate 31 (0, 0)) (by simp)).1⟩, bel⟩
      ·simp only [List.getElem?_toArray, List.getElem?_cons_zero, List.getElem?_cons_succ, Option.some.injEq] at ho
       obtain ⟨v0, hv0, hat0⟩ := hs.1 0 (by rw [← ho]; exact ⟨_, Array.mem_of_getElem? (i := 0) rfl, rfl, rfl⟩)
       have hs0 := hat0 240 (by rfl) (by simp)
       obtain ⟨A, n, c, rfl, hp⟩ := hv0
       have e1 : a.eval (.tmp 240) = .slice A n c := by simp [Act.eval, hs0]
       subst ho
       unfold Oper.wp
       go_simp
       exact ⟨_, rfl, ⟨_, _, _, rfl, built_words w' [(A, n, c, List.replicate 31 (0, 0))] 32 (by simp) (fun p hq => by obtain rfl : p = _ := List.mem_singleton.1 hq; exact hp)⟩, bel⟩
      ·simp only [List.getElem?_toArray, List.getElem?_cons_zero, List.getElem?_cons_succ, Option.some.injEq] at ho
       subst ho
       unfold Oper.wp
       go_simp
       refine (exP29_c w').mono ?_
       rintro e w2 ⟨rfl, hb2⟩
       exact ⟨_, rfl, rfl, hb2⟩
      ·simp only [List.getElem?_toArray, List.getElem?_cons_zero, List.getElem?_cons_succ, Option.some.injEq] at ho
       obtain ⟨v2, hv2, hat2⟩ := hs.1 2 (by rw [← ho]; exact ⟨_, Array.mem_of_getElem? (i := 0) rfl, rfl, rfl⟩)
       have hs2 := hat2 242 (by rfl) (by simp)
       obtain rfl : v2 = sndV sP.1 sP.2 := hv2
       have e1 : a.eval (.tmp 242) = sndV sP.1 sP.2 := by simp [Act.eval, hs2]
       subst ho
       unfold Oper.wp
       go_simp
       exact ⟨_, rfl, ⟨_, _, _, rfl, built_word w' [sP] 24 (by simp)⟩, bel⟩
      ·simp only [List.getElem?_toArray, List.getElem?_cons_zero, List.getElem?_cons_succ, Option.some.injEq] at ho
       obtain ⟨v3, hv3, hat3⟩ := hs.1 3 (by rw [← ho]; exact ⟨_, Array.mem_of_getElem? (i := 0) rfl, rfl, rfl⟩)
       have hs3 := hat3 243 (by rfl) (by simp)
       obtain ⟨A, n, c, rfl, hw⟩ := hv3
       have e1 : a.eval (.tmp 243) = .slice A n c := by simp [Act.eval, hs3]
       subst ho
       unfold Oper.wp
       go_simp
       refine (form29_c A n c w').mono ?_
       rintro e w2 ⟨rfl, hb2⟩
       exact ⟨_, rfl, ⟨⟨true, (A, n, c, _)⟩, rfl, rfl, hw.below hb2 rr⟩, hb2⟩
      ·simp only [List.getElem?_toArray, List.getElem?_cons_zero, List.getElem?_cons_succ, Option.some.injEq] at ho
       subst ho
       unfold Oper.wp
       go_simp
       refine (exP29_c w').mono ?_
       rintro e w2 ⟨rfl, hb2⟩
       exact ⟨_, rfl, rfl, hb2⟩
      ·simp only [List.getElem?_toArray, List.getElem?_cons_zero, List.getElem?_cons_succ, Option.some.injEq] at ho
       subst ho
       unfold Oper.wp
       go_simp
       refine (exP29_c w').mono ?_
       rintro e w2 ⟨rfl, hb2⟩
       exact ⟨_, rfl, rfl, hb2⟩
      ·simp only [List.getElem?_toArray, List.getElem?_cons_zero, List.getElem?_cons_succ, Option.some.injEq] at ho
       obtain ⟨v5, hv5, hat5⟩ := hs.1 5 (by rw [← ho]; exact ⟨_, Array.mem_of_getElem? (i := 0) rfl, rfl, rfl⟩)
       have hs5 := hat5 245 (by rfl) (by simp)
       obtain ⟨v6, hv6, hat6⟩ := hs.1 6 (by rw [← ho]; exact ⟨_, Array.mem_of_getElem? (i := 1) rfl, rfl, rfl⟩)
       have hs6 := hat6 246 (by rfl) (by simp)
       obtain rfl : v5 = sndV sP.1 sP.2 := hv5
       obtain rfl : v6 = sndV sP.1 sP.2 := hv6
       have e1 : a.eval (.tmp 245) = sndV sP.1 sP.2 := by simp [Act.eval, hs5]
       have e2 : a.eval (.tmp 246) = sndV sP.1 sP.2 := by simp [Act.eval, hs6]
       subst ho
       unfold Oper.wp
       go_simp
       exact ⟨_, rfl, ⟨_, _, _, rfl, built_word w' [sP, sP] 24 (by simp)⟩, bel⟩
      ·simp only [List.getElem?_toArray, List.getElem?_cons_zero, List.getElem?_cons_succ, Option.some.injEq] at ho
       obtain ⟨v7, hv7, hat7⟩ := hs.1 7 (by rw [← ho]; exact ⟨_, Array.mem_of_getElem? (i := 0) rfl, rfl, rfl⟩)
       have hs7 := hat7 247 (by rfl) (by simp)
       obtain ⟨A, n, c, rfl, hw⟩ := hv7
       have e1 : a.eval (.tmp 247) = .slice A n c := by simp [Act.eval, hs7]
       subst ho
       unfold Oper.wp
       go_simp
       refine (form29_c A n c w').mono ?_
       rintro e w2 ⟨rfl, hb2⟩
       exact ⟨_, rfl, ⟨⟨true, (A, n, c, _)⟩, rfl, rfl, hw.below hb2 rr⟩, hb2⟩
      ·simp only [List.getElem?_toArray, List.getElem?_cons_zero, List.getElem?_cons_succ, Option.some.injEq] at ho
       obtain ⟨v4, hv4, hat4⟩ := hs.1 4 (by rw [← ho]; exact ⟨_, Array.mem_of_getElem? (i := 0) rfl, rfl, rfl⟩)
       have hs4 := hat4 244 (by rfl) (by simp)
       obtain ⟨v8, hv8, hat8⟩ := hs.1 8 (by rw [← ho]; exact ⟨_, Array.mem_of_getElem? (i := 1) rfl, rfl, rfl⟩)
       have hs8 := hat8 248 (by rfl) (by simp)
       obtain ⟨r, rfl, hd, hp⟩ := hv4
       obtain ⟨r', rfl, hd', hp'⟩ := hv8
       have e1 : a.eval (.tmp 244) = .agg #[.bool r.h, .slice r.p.1 r.p.2.1 r.p.2.2.1] := by simp [Act.eval, hs4, formV]
       have e2 : a.eval (.tmp 248) = .agg #[.bool r'.h, .slice r'.p.1 r'.p.2.1 r'.p.2.2.1] := by simp [Act.eval, hs8, formV]
       subst ho
       unfold Oper.wp
       go_simp
       exact ⟨_, rfl, ⟨_, _, _, rfl, by have h := built_forms w' [r, r'] 57 (by simp) (by simpa using ⟨hp, hp'⟩); simp only [List.map_cons, List.map_nil, hd, hd'] at h; exact h⟩, bel⟩
      ·simp only [List.getElem?_toArray, List.getElem?_cons_zero, List.getElem?_cons_succ, Option.some.injEq] at ho
       obtain ⟨v9, hv9, hat9⟩ := hs.1 9 (by rw [← ho]; exact ⟨_, Array.mem_of_getElem? (i := 0) rfl, rfl, rfl⟩)
       have hs9 := hat9 249 (by rfl) (by simp)
       obtain ⟨A, n, c, rfl, hp⟩ := hv9
       have e1 : a.eval (.tmp 249) = .slice A n c := by simp [Act.eval, hs9]
       subst ho
       unfold Oper.wp
       go_simp
       exact ⟨_, rfl, ⟨_, _, _, rfl, built_par w' [⟨A, n, c, _⟩] 62 (by simp) (by simpa using hp)⟩, bel⟩
      ·simp only [List.getElem?_toArray, List.getElem?_cons_zero, List.getElem?_cons_succ, Option.some.injEq] at ho
       obtain ⟨v1, hv1, hat1⟩ := hs.1 1 (by rw [← ho]; exact ⟨_, Array.mem_of_getElem? (i := 0) rfl, rfl, rfl⟩)
       have hs1 := hat1 241 (by rfl) (by simp)
       obtain ⟨v10, hv10, hat10⟩ := hs.1 10 (by rw [← ho]; exact ⟨_, Array.mem_of_getElem? (i := 1) rfl, rfl, rfl⟩)
       have hs10 := hat10 250 (by rfl) (by simp)
       obtain ⟨A, n, c, rfl, hp⟩ := hv1
       obtain ⟨A', n', c', rfl, hp'⟩ := hv10
       have e1 : a.eval (.tmp 241) = .slice A n c := by simp [Act.eval, hs1]
       have e2 : a.eval (.tmp 250) = .slice A' n' c' := by simp [Act.eval, hs10]
       subst ho
       unfold Oper.wp
       go_simp
       refine (pBuild_c _ _ _ _ _ _ _ _ w' hp hp').mono ?_
       rw [show pBuildM [List.replicate 31 (0, 0)] [[(true, [sP]), (true, [sP, sP])]] = (11, []) from by decide +kernel]
       rintro e w2 ⟨A3, n3, c3, rfl, _, hb2⟩
       exact ⟨_, rfl, ⟨_, _, _, rfl⟩, hb2⟩
      ·simp only [List.getElem?_toArray, List.getElem?_cons_zero, List.getElem?_cons_succ, Option.some.injEq] at ho
       obtain ⟨v11, hv11, hat11⟩ := hs.1 11 (by rw [← ho]; exact ⟨_, Array.mem_of_getElem? (i := 0) rfl, rfl, rfl⟩)
       have hs11 := hat11 251 (by rfl) (by simp)
       obtain ⟨A3, n3, c3, rfl⟩ := hv11
       have e1 : a.eval (.tmp 251) = .tuple #[.slice A3 n3 c3, .int .i64 11] := by simp [Act.eval, hs11]
       subst ho
       unfold Oper.wp
       go_simp
       exact ⟨_, rfl, ⟨_, _, _, rfl⟩, Below.refl _ _⟩
      ·simp only [List.getElem?_toArray, List.getElem?_cons_zero, List.getElem?_cons_succ, Option.some.injEq] at ho
       obtain ⟨v12, hv12, hat12⟩ := hs.1 12 (by rw [← ho]; exact ⟨_, Array.mem_of_getElem? (i := 0) rfl, rfl, rfl⟩)
       have hs12 := hat12 239 (by rfl) (by simp)
       obtain ⟨A3, n3, c3, rfl⟩ := hv12
       have e1 : a.eval (.tmp 239) = .tuple #[.slice A3 n3 c3, .int .i64 11] := by simp [Act.eval, hs12]
       subst ho
       unfold Oper.wp
       go_simp
       exact ⟨_, rfl, ⟨_, _, _, rfl⟩, Below.refl _ _⟩
      ·simp only [List.getElem?_toArray, List.getElem?_cons_zero, List.getElem?_cons_succ, Option.some.injEq] at ho
       obtain ⟨v12, hv12, hat12⟩ := hs.1 12 (by rw [← ho]; exact ⟨_, Array.mem_of_getElem? (i := 0) rfl, rfl, rfl⟩)
       have hs12 := hat12 239 (by rfl) (by simp)
       obtain ⟨A3, n3, c3, rfl⟩ := hv12
       have e1 : a.eval (.tmp 239) = .tuple #[.slice A3 n3 c3, .int .i64 11] := by simp [Act.eval, hs12]
       subst ho
       unfold Oper.wp
       go_simp
       exact ⟨_, rfl, rfl, Below.refl _ _⟩
      ·simp only [List.getElem?_toArray, List.getElem?_cons_zero, List.getElem?_cons_succ, Option.some.injEq] at ho
       obtain ⟨v13, hv13, hat13⟩ := hs.1 13 (by rw [← ho]; exact ⟨_, Array.mem_of_getElem? (i := 0) rfl, rfl, rfl⟩)
       have hs13 := hat13 252 (by rfl) (by simp)
       obtain ⟨A3, n3, c3, rfl⟩ := hv13
       have e1 : a.eval (.tmp 252) = .slice A3 n3 c3 := by simp [Act.eval, hs13]
       subst ho
       unfold Oper.wp
       go_simp
       exact ⟨_, rfl, ⟨_, _, _, rfl⟩, Below.refl _ _⟩
      ·simp only [List.getElem?_toArray, List.getElem?_cons_zero, List.getElem?_cons_succ, Option.some.injEq] at ho
       obtain ⟨v14, hv14, hat14⟩ := hs.1 14 (by rw [← ho]; exact ⟨_, Array.mem_of_getElem? (i := 0) rfl, rfl, rfl⟩)
       have hs14 := hat14 253 (by rfl) (by simp)
       obtain rfl : v14 = .int .i64 11 := hv14
       have e1 : a.eval (.tmp 253) = .int .i64 11 := by simp [Act.eval, hs14]
       subst ho
       unfold Oper.wp
       go_simp
       exact ⟨_, rfl, rfl, Below.refl _ _⟩
     case hrest23 =>
      intro us W16 hall hb
      obtain ⟨A16, n16, c16, e15⟩ := hall 15 (by decide)
      obtain e16 : us 16 = .int .i64 11 := hall 16 (by decide)
      replace HBF := hI (HBF.out.trans (hb.mono HBF.out.size))
      replace N1 := hI ((hb.block _ (lt_of_block N1.out)).trans N1.out)
      replace N2 := hI ((hb.block _ (lt_of_block N2.out)).trans N2.out)
      replace N3 := hI (N3.out.below hb rr)
      replace N4 := hI (N4.out.below hb rr)
      try replace P17 := hI (P17.out.below hb rr)
      clear hb
      try clear d0 d1 d2 d3 hl1 hl2
      obtain ⟨d0, d1, _, _⟩ := two_cells N1.out
      obtain ⟨d2, d3, _, _⟩ := two_cells N2.out
      have hl1 := lt_of_block N1.out
      have hl2 := lt_of_block N2.out
      simp only [putAll, dstOf, List.size_toArray, List.length_cons, List.length_nil, List.getElem?_toArray, List.getElem?_cons_zero, List.getElem?_cons_succ, Option.bind_some, Option.map_some, e15, e16]
      clear hall e15 e16
      generalize us 0 = y0, us 1 = y1, us 2 = y2, us 3 = y3, us 4 = y4, us 5 = y5, us 6 = y6, us 7 = y7, us 8 = y8, us 9 = y9, us 10 = y10, us 11 = y11, us 12 = y12, us 13 = y13, us 14 = y14
      go_simp
      go_wp2_with fail
      refine region_inv (by kernel_rfl) (by kernel_rfl) phi24 _ _ (fun j v w w' h hb => phi24_below h hb) ?hstep24 ?hrest24
      case hstep24 =>
       intro i o ho a w' hs hb
       have hi14 : i < 14 := (Array.getElem?_eq_some_iff.1 ho).1
       have hi : i = 0 ∨ i = 1 ∨ i = 2 ∨ i = 3 ∨ i = 4 ∨ i = 5 ∨ i = 6 ∨ i = 7 ∨ i = 8 ∨ i = 9 ∨ i = 10 ∨ i = 11 ∨ i = 12 ∨ i = 13 := by omega
       clear hi14
       rcases hi with rfl | rfl | rfl | rfl | rfl | rfl | rfl | rfl | rfl | rfl | rfl | rfl | rfl | rfl
       ·simp only [List.getElem?_toArray, List.getElem?_cons_zero, List.getElem?_cons_succ, Option.some.injEq] at ho
        subst ho
        unfold Oper.wp
        have hmk : ∀ W : World, (Instr.makeSlice 32 (.int .i64 31) (.int .i64 31)).run Tryz.prog W = _ := run_make_snds 31 (by omega)
        simp only [hmk]
        go_simp
        exact ⟨_, rfl, ⟨_, _, _, rfl, (wordS_new w' (List.replicate 31 (0, 0)) (by simp)).1⟩, bel⟩
       ·simp only [List.getElem?_toArray, List.getElem?_cons_zero, List.getElem?_cons_succ, Option.some.injEq] at ho
        obtain ⟨v0, hv0, hat0⟩ := hs.1 0 (by rw [← ho]; exact ⟨_, Array.mem_of_getElem? (i := 0) rfl, rfl, rfl⟩)
        have hs0 := hat0 255 (by rfl) (by simp)
        obtain ⟨A, n, c, rfl, hp⟩ := hv0
        have e1 : a.eval (.tmp 255) = .slice A n c := by simp [Act.eval, hs0]
        subst ho
        unfold Oper.wp
        go_simp
        exact ⟨_, rfl, ⟨_, _, _, rfl, built_words w' [(A, n, c, List.replicate 31 (0, 0))] 32 (by simp) (fun p hq => by obtain rfl : p = _ := List.mem_singleton.1 hq; exact hp)⟩, bel⟩
       ·simp only [List.getElem?_toArray, List.getElem?_cons_zero, List.getElem?_cons_succ, Option.some.injEq] at ho
        subst ho
        unfold Oper.wp
        go_simp
        refine (exP29_c w').mono ?_
        rintro e w2 ⟨rfl, hb2⟩
        exact ⟨_, rfl, rfl, hb2⟩
       ·simp only [List.getElem?_toArray, List.getElem?_cons_zero, List.getElem?_cons_succ, Option.some.injEq] at ho
        obtain ⟨v2, hv2, hat2⟩ := hs.1 2 (by rw [← ho]; exact ⟨_, Array.mem_of_getElem? (i := 0) rfl, rfl, rfl⟩)
        have hs2 := hat2 257 (by rfl) (by simp)
        obtain rfl : v2 = sndV sP.1 sP.2 := hv2
        have e1 : a.eval (.tmp 257) = sndV sP.1 sP.2 := by simp [Act.eval, hs2]
        subst ho
        unfold Oper.wp
        go_simp
        exact ⟨_, rfl, ⟨_, _, _, rfl, built_word w' [sP] 24 (by simp)⟩, bel⟩
       ·simp only [List.getElem?_toArray, List.getElem?_cons_zero, List.getElem?_cons_succ, Option.some.injEq] at ho
        obtain ⟨v3, hv3, hat3⟩ := hs.1 3 (by rw [← ho]; exact ⟨_, Array.mem_of_getElem? (i := 0) rfl, rfl, rfl⟩)
        have hs3 := hat3 258 (by rfl) (by simp)
        obtain ⟨A, n, c, rfl, hw⟩ := hv3
        have e1 : a.eval (.tmp 258) = .slice A n c := by simp [Act.eval, hs3]
        subst ho
        unfold Oper.wp
        go_simp
        refine (form29_c A n c w').mono ?_
        rintro e w2 ⟨rfl, hb2⟩
        exact ⟨_, rfl, ⟨⟨true, (A, n, c, _)⟩, rfl, rfl, hw.below hb2 rr⟩, hb2⟩
       ·simp only [List.getElem?_toArray, List.getElem?_cons_zero, List.getElem?_cons_succ, Option.some.injEq] at ho
        subst ho
        unfold Oper.wp
        go_simp
        exact ⟨_, rfl, ⟨formZ, rfl, rfl, Cells.nil _ _⟩, Below.refl _ _⟩
       ·simp only [List.getElem?_toArray, List.getElem?_cons_zero, List.getElem?_cons_succ, Option.some.injEq] at ho
        obtain ⟨v4, hv4, hat4⟩ := hs.1 4 (by rw [← ho]; exact ⟨_, Array.mem_of_getElem? (i := 0) rfl, rfl, rfl⟩)
        have hs4 := hat4 259 (by rfl) (by simp)
        obtain ⟨v5, hv5, hat5⟩ := hs.1 5 (by rw [← ho]; exact ⟨_, Array.mem_of_getElem? (i := 1) rfl, rfl, rfl⟩)
        have hs5 := hat5 260 (by rfl) (by simp)
        obtain ⟨r, rfl, hd, hp⟩ := hv4
        obtain ⟨r', rfl, hd', hp'⟩ := hv5
        have e1 : a.eval (.tmp 259) = .agg #[.bool r.h, .slice r.p.1 r.p.2.1 r.p.2.2.1] := by simp [Act.eval, hs4, formV]
        have e2 : a.eval (.tmp 260) = .agg #[.bool r'.h, .slice r'.p.1 r'.p.2.1 r'.p.2.2.1] := by simp [Act.eval, hs5, formV]
        subst ho
        unfold Oper.wp
        go_simp
        exact ⟨_, rfl, ⟨_, _, _, rfl, by have h := built_forms w' [r, r'] 57 (by simp) (by simpa using ⟨hp, hp'⟩); simp only [List.map_cons, List.map_nil, hd, hd'] at h; exact h⟩, bel⟩
       ·simp only [List.getElem?_toArray, List.getElem?_cons_zero, List.getElem?_cons_succ, Option.some.injEq] at ho
        obtain ⟨v6, hv6, hat6⟩ := hs.1 6 (by rw [← ho]; exact ⟨_, Array.mem_of_getElem? (i := 0) rfl, rfl, rfl⟩)
        have hs6 := hat6 261 (by rfl) (by simp)
        obtain ⟨A, n, c, rfl, hp⟩ := hv6
        have e1 : a.eval (.tmp 261) = .slice A n c := by simp [Act.eval, hs6]
        subst ho
        unfold Oper.wp
        go_simp
        exact ⟨_, rfl, ⟨_, _, _, rfl, built_par w' [⟨A, n, c, _⟩] 62 (by simp) (by simpa using hp)⟩, bel⟩
       ·simp only [List.getElem?_toArray, List.getElem?_cons_zero, List.getElem?_cons_succ, Option.some.injEq] at ho
        obtain ⟨v1, hv1, hat1⟩ := hs.1 1 (by rw [← ho]; exact ⟨_, Array.mem_of_getElem? (i := 0) rfl, rfl, rfl⟩)
        have hs1 := hat1 256 (by rfl) (by simp)
        obtain ⟨v7, hv7, hat7⟩ := hs.1 7 (by rw [← ho]; exact ⟨_, Array.mem_of_getElem? (i := 1) rfl, rfl, rfl⟩)
        have hs7 := hat7 262 (by rfl) (by simp)
        obtain ⟨A, n, c, rfl, hp⟩ := hv1
        obtain ⟨A', n', c', rfl, hp'⟩ := hv7
        have e1 : a.eval (.tmp 256) = .slice A n c := by simp [Act.eval, hs1]
        have e2 : a.eval (.tmp 262) = .slice A' n' c' := by simp [Act.eval, hs7]
        subst ho
        unfold Oper.wp
        go_simp
        refine (pBuild_c _ _ _ _ _ _ _ _ w' hp hp').mono ?_
        rw [show pBuildM [List.replicate 31 (0, 0)] [[(true, [sP]), (false, [])]] = (0, [row32]) from by decide +kernel]
        rintro e w2 ⟨A3, n3, c3, rfl, hw2, hb2⟩
        exact ⟨_, rfl, ⟨_, _, _, rfl, hw2⟩, hb2⟩
       ·simp only [List.getElem?_toArray, List.getElem?_cons_zero, List.getElem?_cons_succ, Option.some.injEq] at ho
        obtain ⟨v8, hv8, hat8⟩ := hs.1 8 (by rw [← ho]; exact ⟨_, Array.mem_of_getElem? (i := 0) rfl, rfl, rfl⟩)
        have hs8 := hat8 263 (by rfl) (by simp)
        obtain ⟨A3, n3, c3, rfl, hp⟩ := hv8
        have e1 : a.eval (.tmp 263) = .tuple #[.slice A3 n3 c3, .int .i64 0] := by simp [Act.eval, hs8]
        subst ho
        unfold Oper.wp
        go_simp
        exact ⟨_, rfl, ⟨_, _, _, rfl, hp⟩, Below.refl _ _⟩
       ·simp only [List.getElem?_toArray, List.getElem?_cons_zero, List.getElem?_cons_succ, Option.some.injEq] at ho
        obtain ⟨v9, hv9, hat9⟩ := hs.1 9 (by rw [← ho]; exact ⟨_, Array.mem_of_getElem? (i := 0) rfl, rfl, rfl⟩)
        have hs9 := hat9 254 (by rfl) (by simp)
        obtain ⟨A3, n3, c3, rfl, hp⟩ := hv9
        have e1 : a.eval (.tmp 254) = .tuple #[.slice A3 n3 c3, .int .i64 0] := by simp [Act.eval, hs9]
        subst ho
        unfold Oper.wp
        go_simp
        exact ⟨_, rfl, ⟨_, _, _, rfl, hp⟩, Below.refl _ _⟩
       ·simp only [List.getElem?_toArray, List.getElem?_cons_zero, List.getElem?_cons_succ, Option.some.injEq] at ho
        obtain ⟨v9, hv9, hat9⟩ := hs.1 9 (by rw [← ho]; exact ⟨_, Array.mem_of_getElem? (i := 0) rfl, rfl, rfl⟩)
        have hs9 := hat9 254 (by rfl) (by simp)
        obtain ⟨A3, n3, c3, rfl, hp⟩ := hv9
        have e1 : a.eval (.tmp 254) = .tuple #[.slice A3 n3 c3, .int .i64 0] := by simp [Act.eval, hs9]
        subst ho
        unfold Oper.wp
        go_simp
        exact ⟨_, rfl, rfl, Below.refl _ _⟩
       ·simp only [List.getElem?_toArray, List.getElem?_cons_zero, List.getElem?_cons_succ, Option.some.injEq] at ho
        obtain ⟨v10, hv10, hat10⟩ := hs.1 10 (by rw [← ho]; exact ⟨_, Array.mem_of_getElem? (i := 0) rfl, rfl, rfl⟩)
        have hs10 := hat10 264 (by rfl) (by simp)
        obtain ⟨A3, n3, c3, rfl, hp⟩ := hv10
        have e1 : a.eval (.tmp 264) = .slice A3 n3 c3 := by simp [Act.eval, hs10]
        subst ho
        unfold Oper.wp
        go_simp
        exact ⟨_, rfl, ⟨_, _, _, rfl, hp⟩, Below.refl _ _⟩
       ·simp only [List.getElem?_toArray, List.getElem?_cons_zero, List.getElem?_cons_succ, Option.some.injEq] at ho
        obtain ⟨v11, hv11, hat11⟩ := hs.1 11 (by rw [← ho]; exact ⟨_, Array.mem_of_getElem? (i := 0) rfl, rfl, rfl⟩)
        have hs11 := hat11 265 (by rfl) (by simp)
        obtain rfl : v11 = .int .i64 0 := hv11
        have e1 : a.eval (.tmp 265) = .int .i64 0 := by simp [Act.eval, hs11]
        subst ho
        unfold Oper.wp
        go_simp
        exact ⟨_, rfl, rfl, Below.refl _ _⟩
      case hrest24 =>
       intro us W17 hall hb
       obtain ⟨A17, n17, c17, e12, hp17⟩ := hall 12 (by decide)
       obtain e13 : us 13 = .int .i64 0 := hall 13 (by decide)
       replace HBF := hI (HBF.out.trans (hb.mono HBF.out.size))
       replace N1 := hI ((hb.block _ (lt_of_block N1.out)).trans N1.out)
       replace N2 := hI ((hb.block _ (lt_of_block N2.out)).trans N2.out)
       replace N3 := hI (N3.out.below hb rr)
       replace N4 := hI (N4.out.below hb rr)
       try replace P17 := hI (P17.out.below hb rr)
       clear hb
       try clear d0 d1 d2 d3 hl1 hl2
       obtain ⟨d0, d1, _, _⟩ := two_cells N1.out
       obtain ⟨d2, d3, _, _⟩ := two_cells N2.out
       have hl1 := lt_of_block N1.out
       have hl2 := lt_of_block N2.out
       have P17 := hI hp17; clear hp17
       simp only [putAll, dstOf, List.size_toArray, List.length_cons, List.length_nil, List.getElem?_toArray, List.getElem?_cons_zero, List.getElem?_cons_succ, Option.bind_some, Option.map_some, e12, e13]
       clear hall e12 e13
       generalize us 0 = x0, us 1 = x1, us 2 = x2, us 3 = x3, us 4 = x4, us 5 = x5, us 6 = x6, us 7 = x7, us 8 = x8, us 9 = x9, us 10 = x10, us 11 = x11
       go_simp
       obtain ⟨MF, hMF⟩ : ∃ MF : Array Value, MF = ((List.replicate 17 formZ).flatMap FormR.cells).toArray := ⟨_, rfl⟩
       have hmk : ∀ W : World, (Instr.makeSlice 62 (.int .i64 17) (.int .i64 17)).run Tryz.prog W = .ok (.slice (some ⟨W.heap.size, 0, none⟩) 17 17) (W.alloc (.cells MF 57)) := by
        intro W; rw [hMF]; exact run_mk_forms 17 (by omega) W
       have hmf : ∀ W : World, IsForms (W.alloc (.cells MF 57)) (some ⟨W.heap.size, 0, none⟩) 17 17 (List.replicate 17 (false, [])) := by
        intro W; rw [hMF]; exact mk_forms W 17 (by omega)
       clear hMF
       go_wp2_with fail
       obtain ⟨V, hV⟩ : ∃ V, V = ((W17.alloc (.cells #[.slice none 0 0] 32)).alloc (.cells MF 57)).alloc (.cells #[.slice (some ⟨W17.heap.size + 1, 0, none⟩) 17 17] 62) := ⟨_, rfl⟩
       have hb : Below W17.heap.size W17 V := by rw [hV]; exact bel
       have hy : IsWords V (some ⟨W17.heap.size, 0, none⟩) 1 1 [[]] := by
        rw [hV]
        exact (built_words W17 [(none, 0, 0, [])] 32 (by simp) (fun p hp => by obtain rfl : p = _ := List.mem_singleton.1 hp; exact Cells.nil _ _)).below (B := W17.heap.size + 1) bel (by simp)
       have hp : IsPar V (some ⟨W17.heap.size + 2, 0, none⟩) 1 1 [List.replicate 17 (false, [])] := by
        have h1 := hmf (W17.alloc (.cells #[.slice none 0 0] 32))
        rw [World.size_alloc] at h1
        have h3 := built_par ((W17.alloc (.cells #[.slice none 0 0] 32)).alloc (.cells MF 57)) [⟨some ⟨W17.heap.size + 1, 0, none⟩, 17, 17, List.replicate 17 (false, [])⟩] 62 (by simp) (fun r hr => by
         obtain rfl : r = _ := List.mem_singleton.1 hr
         exact h1)
        rw [World.size_alloc, World.size_alloc] at h3
        rw [hV]
        exact h3
       rw [← hV]
       clear hV hmk hmf
       refine (pBuild_c _ 1 1 [[]] _ 1 1 [List.replicate 17 (false, [])] V hy hp).mono ?_
       rw [show pBuildM [[]] [List.replicate 17 (false, [])] = (12, []) from by decide +kernel]
       rintro e W18 ⟨A18, n18, c18, rfl, _, hb2⟩
       replace hb := hb.trans (hb2.mono hb.size)
       clear hy hp hb2
       replace HBF := hI (HBF.out.trans (hb.mono HBF.out.size))
       replace N1 := hI ((hb.block _ (lt_of_block N1.out)).trans N1.out)
       replace N2 := hI ((hb.block _ (lt_of_block N2.out)).trans N2.out)
       replace N3 := hI (N3.out.below hb rr)
       replace N4 := hI (N4.out.below hb rr)
       try replace P17 := hI (P17.out.below hb rr)
       clear hb
       try clear d0 d1 d2 d3 hl1 hl2
       obtain ⟨d0, d1, _, _⟩ := two_cells N1.out
       obtain ⟨d2, d3, _, _⟩ := two_cells N2.out
       have hl1 := lt_of_block N1.out
       have hl2 := lt_of_block N2.out
       go_wp2_with fail
       refine (row29_c none 0 0 [] W18 (Cells.nil _ _) (by decide)).mono ?_
       rintro e W19 ⟨A19, n19, c19, rfl, hf, hb⟩
       have HF := hI hf; clear hf
       replace HBF := hI (HBF.out.trans (hb.mono HBF.out.size))
       replace N1 := hI ((hb.block _ (lt_of_block N1.out)).trans N1.out)
       replace N2 := hI ((hb.block _ (lt_of_block N2.out)).trans N2.out)
       replace N3 := hI (N3.out.below hb rr)
       replace N4 := hI (N4.out.below hb rr)
       try replace P17 := hI (P17.out.below hb rr)
       clear hb
       try clear d0 d1 d2 d3 hl1 hl2
       obtain ⟨d0, d1, _, _⟩ := two_cells N1.out
       obtain ⟨d2, d3, _, _⟩ := two_cells N2.out
       have hl1 := lt_of_block N1.out
       have hl2 := lt_of_block N2.out
       go_wp2_with fail
       have hp : IsPar (W19.alloc (.cells #[.slice A19 n19 c19] 62)) (some ⟨W19.heap.size, 0, none⟩) 1 1 [row29D []] :=
        built_par W19 [⟨A19, n19, c19, row29D []⟩] 62 (by simp) (fun r hr => by obtain rfl : r = _ := List.mem_singleton.1 hr; exact HF.out)
       have hb : Below W19.heap.size W19 (W19.alloc (.cells #[.slice A19 n19 c19] 62)) := bel
       refine (pGrades_c _ 1 1 [row29D []] 1 0 0 _ hp (by decide)).mono ?_
       rintro e W20 ⟨A20, n20, c20, rfl, _, hb2⟩
       rw [show (pGradesM [row29D []] 1 (0, 0)).1 = 3 from by decide +kernel]
       replace hb := hb.trans (hb2.mono hb.size)
       clear hp hb2 HF
       replace HBF := hI (HBF.out.trans (hb.mono HBF.out.size))
       replace N1 := hI ((hb.block _ (lt_of_block N1.out)).trans N1.out)
       replace N2 := hI ((hb.block _ (lt_of_block N2.out)).trans N2.out)
       replace N3 := hI (N3.out.below hb rr)
       replace N4 := hI (N4.out.below hb rr)
       try replace P17 := hI (P17.out.below hb rr)
       clear hb
       try clear d0 d1 d2 d3 hl1 hl2
       obtain ⟨d0, d1, _, _⟩ := two_cells N1.out
       obtain ⟨d2, d3, _, _⟩ := two_cells N2.out
       have hl1 := lt_of_block N1.out
       have hl2 := lt_of_block N2.out
       obtain ⟨rs, hr1, hr2, hr3⟩ := P17.out
       obtain ⟨r, rfl⟩ : ∃ r, rs = [r] := by
        have h1 := congrArg List.length hr1
        rw [List.length_map] at h1
        exact List.length_eq_one_iff.1 h1
       have hrl : r.l = row32 := by simpa using hr1
       have hf := hr3 r (List.mem_singleton.2 rfl)
       rw [hrl] at hf
       obtain ⟨fs, hg1, hg2, hg3⟩ := hf
       obtain ⟨f0, f1, rfl⟩ : ∃ f0 f1, fs = [f0, f1] := by
        have h1 := congrArg List.length hg1
        rw [List.length_map] at h1
        rcases fs with _ | ⟨f0, _ | ⟨f1, _ | ⟨f2, l⟩⟩⟩
        ·simp [row32] at h1
        ·simp [row32] at h1
        ·exact ⟨f0, f1, rfl⟩
        ·simp [row32] at h1
       have hg10 : f0.data = (true, List.replicate 31 (0, 0) ++ [sP]) ∧ f1.data = (false, []) := by simpa [row32] using hg1
       have hn17 : 1 = n17 := by simpa using hr2.1
       have hrn : 2 = r.n := by simpa using hg2.2
       obtain ⟨bt, ot, rfl, hbt, hct⟩ := hr2.2.2.2.2 (by omega)
       obtain ⟨bf, of_, hrA, hbf, hcf⟩ := hg2.1.2.2.2.2 (by omega)
       have t0 := hct 0 _ rfl
       have t1 := hcf 0 _ rfl
       have t2 := hcf 1 _ rfl
       have t3 := hcf 2 _ rfl
       have hl0 : f0.p.2.1 = 32 := by
        have h1 := (hg3 f0 (by simp)).len
        have h2 : f0.p.2.2.2 = List.replicate 31 (0, 0) ++ [sP] := congrArg Prod.snd hg10.1
        rw [h2] at h1; simpa using h1.symm
       have hh1 : f1.h = false := congrArg Prod.fst hg10.2
       rw [show r.val = .slice r.A r.n r.c from rfl, hrA, ← hrn] at t0
       rw [show f0.p.val = .slice f0.p.1 f0.p.2.1 f0.p.2.2.1 from rfl, hl0] at t2
       rw [hh1] at t3
       subst hn17
       rw [Nat.add_zero] at t0 t1
       have HW := hI (HT.out.below HBF.out rr)
       clear hct hcf hr1 hr2 hr3 hg1 hg2 hg3 hg10 hrl hl0 hh1 hrn hrA P17
       go_wp2_with fail
       refine (works29_c W20 HW.out).mono ?_
       rintro e W21 ⟨rfl, hb⟩
       have hbf := HBF.out.trans (hb.mono HBF.out.size)
       clear hb t0 t1 t2 t3
       go_wp2
       go_ret
       exact ⟨rfl, hbf⟩
end Go.Proofs.YtlgliddhideflaaGreatDoor

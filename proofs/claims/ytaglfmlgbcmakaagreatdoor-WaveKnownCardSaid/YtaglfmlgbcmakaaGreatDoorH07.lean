/-
  example of ablautlaw38: the map of the chapter, its laws and waves.
  What WaveKnown's walk wants of memory: slices that make lays, waves that are built, a map of nothing, the long road's rows.
  The table of ablautlaw38.WaveKnown: eight waves, and what is said of each.
  The forms by a law that makes a word longer: what the operations of the region come to, in any order (WaveKnown).
  A part of a function's code, by the way to it.
  ablautref06.Size returns; nothing old is written; parts of laws.
  What WaveKnown's walk holds, and rules for one operation.
  ablautlaw10.numbers.
-/
import Derived.Test.YtaglfmlgbcmakaaGreatDoorXNw3
set_option linter.all false
set_option maxRecDepth 100000
set_option maxHeartbeats 4000000
namespace Go.Proofs.YtaglfmlgbcmakaaGreatDoor
open Go.RowKit Go.Shelf
theorem builtC (w : World) (vs : List Value) (t : TypeId) (n sz : Nat) (h : vs.length = n * sz) (hn : n ≤ maxLen) : Cells (w.alloc (.cells vs.toArray t)) (some ⟨w.heap.size, 0, none⟩) n n sz vs :=
 ⟨h, rr, hn, (fun h => by cases h), fun _ => ⟨w.heap.size, 0, rfl, by simp, fun j v hv => by rw [Nat.zero_add]; exact cell_new_at (by simpa using hv)⟩⟩
theorem wv0_u : WaveU wv0 := ⟨by decide, by decide, by decide, by decide, fun x hx => by
 have h : x = 0 := by simpa [wv0] using hx
 rw [h]; decide⟩
theorem wv1_u : WaveU wv1 := ⟨by decide, by decide, by decide, by decide, fun x hx => by
 have h : x = 3 := by simpa [wv1] using hx
 rw [h]; decide⟩
theorem example38_c (w : World) : Calls Tryz.prog 47 #[] w fun e w' =>
  ∃ b Al xs Aw ys, e = .returned (.tuple #[.pointer (some ⟨b, 0, none⟩), .slice Al 2 2, .slice Aw 2 2]) ∧ MapAt w' b 5 exRoadN ∧ IsLaws w' Al 2 2 xs ∧ lawsD xs = [vD, fD] ∧ IsWaves w' Aw 2 2 ys ∧ wavesD ys = [wv0, wv1] ∧ Below w.heap.size w w' := by
 go_enter Tryz.func47, Tryz.ntmps47
 go_wp2_with fail
 have hns : IsStrs (w.alloc (.cells #[.string ⟨#[97]⟩, .string ⟨#[98]⟩, .string ⟨#[99]⟩, .string ⟨#[100]⟩, .string ⟨#[101]⟩] 9)) (some ⟨w.heap.size, 0, none⟩) 5 5 exNames := builtC w _ _ 5 1 rfl (by decide)
 have hz1 : Below w.heap.size w (w.alloc (.cells #[.string ⟨#[97]⟩, .string ⟨#[98]⟩, .string ⟨#[99]⟩, .string ⟨#[100]⟩, .string ⟨#[101]⟩] 9)) := (Below.refl _ w).alloc rr _
 have hsz : (w.alloc (.cells #[.string ⟨#[97]⟩, .string ⟨#[98]⟩, .string ⟨#[99]⟩, .string ⟨#[100]⟩, .string ⟨#[101]⟩] 9)).heap.size = w.heap.size + 1 := by simp
 generalize w.alloc (.cells #[.string ⟨#[97]⟩, .string ⟨#[98]⟩, .string ⟨#[99]⟩, .string ⟨#[100]⟩, .string ⟨#[101]⟩] 9) = V1 at *
 have hrs : IsRoads (V1.alloc (.cells #[.int .i64 0, .int .i64 1, .int .i64 4, .int .i64 1, .int .i64 2, .int .i64 3, .int .i64 2, .int .i64 3, .int .i64 1] 64)) (some ⟨V1.heap.size, 0, none⟩) 3 3 exRoads := ⟨builtC V1 _ _ 3 3 rfl (by decide), rfl⟩
 rw [hsz] at hrs
 have hz2 : Below V1.heap.size V1 (V1.alloc (.cells #[.int .i64 0, .int .i64 1, .int .i64 4, .int .i64 1, .int .i64 2, .int .i64 3, .int .i64 2, .int .i64 3, .int .i64 1] 64)) := (Below.refl _ V1).alloc rr _
 generalize V1.alloc (.cells #[.int .i64 0, .int .i64 1, .int .i64 4, .int .i64 1, .int .i64 2, .int .i64 3, .int .i64 2, .int .i64 3, .int .i64 1] 64) = V2 at *
 refine (new_c _ 5 5 exNames _ 3 3 exRoads V2 (hns.below hz2 rr) hrs).mono ?_
 rintro e w1 ⟨⟨h0, -⟩ | ⟨-, b, rfl, hmp⟩, hb1⟩
 ·exact absurd ex_new h0
 rw [ex_roads] at hmp
 have HMP : Hid (MapAt w1 b 5 exRoadN) := hmp
 have hB1 : Below w.heap.size w w1 := hz1.trans ((hz2.trans (hb1.mono hz2.size)).mono hz1.size)
 have HB1 := hI hB1
 clear hns hz1 hsz hrs hz2 hmp hb1 hB1
 go_wp2_with fail
 refine (exV_c w1).mono ?_
 rintro e w2 ⟨av, rfl, hl2, hb2⟩
 have HL2 := hI hl2
 have HM2 := hI (HMP.out.below hb2)
 have HB2 := hI (HB1.out.trans (hb2.mono HB1.out.size))
 clear hl2 hb2 HMP HB1
 go_wp2_with fail
 refine (exF_c w2).mono ?_
 rintro e w3 ⟨af, rfl, hl3, hb3⟩
 have HL3 := hI hl3
 have HV3 := hI (HL2.out.below hb3 rr)
 have HM3 := hI (HM2.out.below hb3)
 have HB3 := hI (HB2.out.trans (hb3.mono HB2.out.size))
 clear hl3 hb3 HM2 HB2 HL2
 go_wp2_with (refine build_law2 rfl (.tmp 15) (.tmp 16) rfl ⟨vD, av⟩ ⟨fD, af⟩ rfl rfl ?_)
 go_ret3
 have h4 := built_laws2 w3 ⟨vD, av⟩ ⟨fD, af⟩ 55 HV3.out HL3.out
 have z4 : Below w3.heap.size w3 (w3.alloc (.cells (LawR.cells ⟨vD, av⟩ ++ LawR.cells ⟨fD, af⟩).toArray 55)) := (Below.refl _ w3).alloc rr _
 have s4 : (w3.alloc (.cells (LawR.cells ⟨vD, av⟩ ++ LawR.cells ⟨fD, af⟩).toArray 55)).heap.size = w3.heap.size + 1 := by simp
 generalize w3.alloc (.cells (LawR.cells ⟨vD, av⟩ ++ LawR.cells ⟨fD, af⟩).toArray 55) = W4 at *
 have h5 : IsInts (W4.alloc (.cells #[.int .i64 0] 3)) (some ⟨W4.heap.size, 0, none⟩) 1 1 [0] := builtC W4 [.int .i64 0] _ 1 1 rfl (by decide)
 have z5 : Below W4.heap.size W4 (W4.alloc (.cells #[.int .i64 0] 3)) := (Below.refl _ W4).alloc rr _
 have s5 : (W4.alloc (.cells #[.int .i64 0] 3)).heap.size = W4.heap.size + 1 := by simp
 generalize W4.alloc (.cells #[.int .i64 0] 3) = W5 at *
 have h6 : IsInts (W5.alloc (.cells #[.int .i64 3] 3)) (some ⟨W5.heap.size, 0, none⟩) 1 1 [3] := builtC W5 [.int .i64 3] _ 1 1 rfl (by decide)
 have z6 : Below W5.heap.size W5 (W5.alloc (.cells #[.int .i64 3] 3)) := (Below.refl _ W5).alloc rr _
 have s6 : (W5.alloc (.cells #[.int .i64 3] 3)).heap.size = W5.heap.size + 1 := by simp
 generalize W5.alloc (.cells #[.int .i64 3] 3) = W6 at *
 rw [← s4, ← s5, ← s6]
 have h7 : Recs WaveR.cells 5 (W6.alloc (.cells #[.int .i64 0, .slice (some ⟨W4.heap.size, 0, none⟩) 1 1, .int .i64 2, .int .i64 1, .int .i64 100, .int .i64 1, .slice (some ⟨W5.heap.size, 0, none⟩) 1 1, .int .i64 0, .int .i64 3, .int .i64 13] 38)) (some ⟨W6.heap.size, 0, none⟩) 2 2 [⟨wv0, some ⟨W4.heap.size, 0, none⟩, 1, 1⟩, ⟨wv1, some ⟨W5.heap.size, 0, none⟩, 1, 1⟩] := ⟨builtC W6 _ _ 2 5 rfl (by decide), rfl⟩
 have z7 : Below W6.heap.size W6 (W6.alloc (.cells #[.int .i64 0, .slice (some ⟨W4.heap.size, 0, none⟩) 1 1, .int .i64 2, .int .i64 1, .int .i64 100, .int .i64 1, .slice (some ⟨W5.heap.size, 0, none⟩) 1 1, .int .i64 0, .int .i64 3, .int .i64 13] 38)) := (Below.refl _ W6).alloc rr _
 generalize W6.alloc (.cells #[.int .i64 0, .slice (some ⟨W4.heap.size, 0, none⟩) 1 1, .int .i64 2, .int .i64 1, .int .i64 100, .int .i64 1, .slice (some ⟨W5.heap.size, 0, none⟩) 1 1, .int .i64 0, .int .i64 3, .int .i64 13] 38) = W7 at *
 have z67 := z6.trans (z7.mono z6.size)
 have z57 := z5.trans (z67.mono z5.size)
 have z47 := z4.trans (z57.mono z4.size)
 refine ⟨b, _, _, _, _, rfl, HM3.out.below z47, h4.below z57 rr, rfl, ⟨h7, fun y hy => ?_⟩, rfl, HB3.out.trans (z47.mono HB3.out.size)⟩
 simp only [List.mem_cons, List.not_mem_nil, or_false] at hy
 rcases hy with rfl | rfl
 ·exact ⟨Cells.below h5 z67 rr, wv0_u⟩
 ·exact ⟨Cells.below h6 z7 rr, wv1_u⟩
theorem madeK {α : Type} (enc : α → List Value) (k : Nat) (hlen : ∀ x, (enc x).length = k) (hk : 0 < k) (x : α) (n : Nat) : madeCells (enc x).toArray (n * k) = ((List.replicate n x).flatMap enc).toArray := by
 apply Array.ext
 ·simp [size_madeCells, flat_len enc k hlen]
 ·intro i h1 h2
  have hi : i < n * k := by simpa [size_madeCells] using h1
  have hq : i / k < n := Nat.div_lt_of_lt_mul (by rw [Nat.mul_comm]; exact hi)
  have hm : i % k < k := Nat.mod_lt _ hk
  have hz : (List.replicate n x)[i / k]? = some x := by rw [List.getElem?_replicate, if_pos hq]
  have hl : i % k < (enc x).length := by rw [hlen]; exact hm
  have h3 := flat_at enc k hlen _ (i / k) x hz (i % k) _ (List.getElem?_eq_getElem hl)
  rw [show i / k * k + i % k = i by rw [Nat.mul_comm]; exact Nat.div_add_mod i k] at h3
  have h4 := (List.getElem?_eq_some_iff.1 h3).2
  refine Eq.trans ?_ h4.symm
  simp [madeCells, hlen, List.getElem?_eq_getElem hl]
def knA : LawA := ⟨none, 0, none, 0, none, 0, none, 0⟩
def knR : LawR := ⟨zeroL, knA⟩
theorem knR_at (w : World) : LawAt w knR.l knR.a := ⟨⟨⟨rfl, rr, by decide, fun _ => rfl⟩, trivial⟩, ⟨⟨rfl, rr, by decide, fun _ => rfl⟩, trivial⟩, Cells.nil _ _, ⟨Cells.nil _ _, rfl⟩, by decide⟩
def lawsC (n : Nat) : List Value := (List.replicate n knR).flatMap LawR.cells
theorem run_mk_lawsK (n : Nat) (hn : n ≤ 4096) (w : World) : (Instr.makeSlice 26 (.int .i64 (n : Int)) (.int .i64 (n : Int))).run Tryz.prog w = .ok (.slice (some ⟨w.heap.size, 0, none⟩) n n) (w.alloc (.cells (lawsC n).toArray 55)) := by
 obtain ⟨i, hi, hzz⟩ := Option.map_eq_some_iff.1 law_info
 simp only [Prod.mk.injEq] at hzz
 obtain ⟨hz, hs, hb⟩ := hzz
 have hr := run_make (P := Tryz.prog) w 26 55 i _ Tryz.underlying26 hi hz .i64 .i64 n n (by omega) (Int.le_refl _) (by rw [hb]; omega) (by omega)
 rw [Int.toNat_natCast, hs] at hr
 unfold lawsC
 rw [← madeK LawR.cells 18 LawR.len (by decide) knR n]
 exact hr
theorem mk_lawsK (w : World) (n : Nat) (hn : n ≤ 4096) : IsLaws (w.alloc (.cells (lawsC n).toArray 55)) (some ⟨w.heap.size, 0, none⟩) n n (List.replicate n knR) := by
 have h := built_laws w (List.replicate n knR) 55 (by simpa using hn) (fun x hx => by rw [List.eq_of_mem_replicate hx]; exact knR_at w)
 simpa [lawsC] using h
theorem lawsD_rep (n : Nat) : lawsD (List.replicate n knR) = List.replicate n zeroL := by unfold lawsD; rw [List.map_replicate]; rfl
-- waves
theorem wave_info : (Tryz.prog.info? 38).map (fun i => (i.zero, i.size, i.bytes)) = some (some (.agg #[.int .i64 0, .slice none 0 0, .int .i64 0, .int .i64 0, .int .i64 0]), 5, 56) := by kernel_rfl
def zeroWR : WaveR := ⟨zeroW, none, 0, 0⟩
theorem zeroW_u : WaveU zeroW := ⟨by decide, by decide, by decide, by decide, fun x hx => by cases hx⟩
theorem zeroW_at (w : World) : WaveAt w zeroWR := ⟨Cells.nil _ _, zeroW_u⟩
def wavesC (n : Nat) : List Value := (List.replicate n zeroWR).flatMap WaveR.cells
theorem run_mk_waves (n : Nat) (hn : n ≤ 4096) (w : World) : (Instr.makeSlice 27 (.int .i64 (n : Int)) (.int .i64 (n : Int))).run Tryz.prog w = .ok (.slice (some ⟨w.heap.size, 0, none⟩) n n) (w.alloc (.cells (wavesC n).toArray 38)) := by
 obtain ⟨i, hi, hzz⟩ := Option.map_eq_some_iff.1 wave_info
 simp only [Prod.mk.injEq] at hzz
 obtain ⟨hz, hs, hb⟩ := hzz
 have hr := run_make (P := Tryz.prog) w 27 38 i _ Tryz.underlying27 hi hz .i64 .i64 n n (by omega) (Int.le_refl _) (by rw [hb]; omega) (by omega)
 rw [Int.toNat_natCast, hs] at hr
 unfold wavesC
 rw [← madeK WaveR.cells 5 WaveR.len (by decide) zeroWR n]
 exact hr
theorem built_waves (w : World) (xs : List WaveR) (t : TypeId) (hn : xs.length ≤ 4096) (hl : ∀ x ∈ xs, WaveAt w x) : IsWaves (w.alloc (.cells (xs.flatMap WaveR.cells).toArray t)) (some ⟨w.heap.size, 0, none⟩) xs.length xs.length xs :=
 ⟨⟨builtC w _ _ _ 5 (flat_len WaveR.cells 5 WaveR.len xs) (by unfold maxLen; omega), rfl⟩, fun x hx => (hl x hx).below ((Below.refl w.heap.size w).alloc rr _)⟩
theorem mk_waves (w : World) (n : Nat) (hn : n ≤ 4096) : IsWaves (w.alloc (.cells (wavesC n).toArray 38)) (some ⟨w.heap.size, 0, none⟩) n n (List.replicate n zeroWR) := by
 have h := built_waves w (List.replicate n zeroWR) 38 (by simpa using hn) (fun x hx => by rw [List.eq_of_mem_replicate hx]; exact zeroW_at w)
 simpa [wavesC] using h
theorem wavesD_rep (n : Nat) : wavesD (List.replicate n zeroWR) = List.replicate n zeroW := by unfold wavesD; rw [List.map_replicate]; rfl
theorem IsWaves.take {w : World} {A : Option Addr} {n c k : Nat} {ys : List WaveR} (h : IsWaves w A n c ys) (hk : k ≤ n) : IsWaves w A k c (ys.take k) :=
 ⟨h.1.take WaveR.len hk, fun y hy => h.2 y (List.mem_of_mem_take hy)⟩
theorem wave1 (w : World) (x : WaveR) (t : TypeId) (hx : WaveAt w x) : IsWaves (w.alloc (.cells #[.int .i64 x.d.law, .slice x.A x.n x.c, .int .i64 x.d.time, .int .i64 x.d.slow, .int .i64 x.d.fin] t)) (some ⟨w.heap.size, 0, none⟩) 1 1 [x] :=
 built_waves w [x] t (by simp) (fun z hz => by obtain rfl : z = x := by simpa using hz
                                               exact hx)
theorem wave2 (w : World) (x y : WaveR) (t : TypeId) (hx : WaveAt w x) (hy : WaveAt w y) : IsWaves (w.alloc (.cells #[.int .i64 x.d.law, .slice x.A x.n x.c, .int .i64 x.d.time, .int .i64 x.d.slow, .int .i64 x.d.fin, .int .i64 y.d.law, .slice y.A y.n y.c, .int .i64 y.d.time, .int .i64 y.d.slow, .int .i64 y.d.fin] t)) (some ⟨w.heap.size, 0, none⟩) 2 2 [x, y] :=
 built_waves w [x, y] t (by simp) (fun z hz => by
  simp only [List.mem_cons, List.not_mem_nil, or_false] at hz
  rcases hz with rfl | rfl
  ·exact hx
  ·exact hy)
theorem wcheckZ_c (b : Nat) (Ax : Option Addr) (nx cx : Nat) (A : Option Addr) (m c : Nat) (w : World) (h : w.cell? ⟨b, 0, none⟩ = some (.slice none 0 0)) : Calls Tryz.prog 37 #[.pointer (some ⟨b, 0, none⟩), .slice Ax nx cx, .slice A m c] w fun e w' => e = .returned (.int .i64 1) ∧ Below w.heap.size w w' := by
 have HC := hI h
 clear h
 go_enter Tryz.func37, Tryz.ntmps37
 go_wp2_with fail
 refine (mlen_c b none 0 0 w HC.out).mono ?_
 rintro e w1 ⟨rfl, hb1⟩
 go_wp2
 go_ret
 exact ⟨rfl, hb1⟩
-- the long road's rows
theorem own_apt {w : World} {B : Nat} {e e' : TypeId} {sz sz' n n' : Nat} {v v' : Value} {xs xs' : List Value} (h : w.ownsRow B e sz v n xs) (h' : w.ownsRow B e' sz' v' n' xs') (hne : e ≠ e') : v.ownBlock = none ∨ v.ownBlock ≠ v'.ownBlock := by
 rcases h.2 with ⟨h2, _⟩ | ⟨g, cap, cur, h2, _, h3, _⟩
 ·rw [h2]; exact .inl rfl
 ·right
  intro he
  rcases h'.2 with ⟨k2, _⟩ | ⟨g', cap', cur', k2, _, k3, _⟩
  ·rw [h2, k2] at he; cases he
  ·rw [h2, k2] at he
   obtain rfl : g = g' := Option.some.inj he
   rw [h3] at k3
   injection k3 with k3
   injection k3 with _ k3 _
   exact hne k3
structure LongW (w0 : World) (vn vr : Value) (k j : Nat) (W : World) : Prop where
 nm : W.ownsRow w0.heap.size 9 1 vn k ((nmL k).map Value.string)
 rd : W.ownsRow w0.heap.size 64 3 vr j ((rdL j).flatMap roadC)
 kept : Below w0.heap.size w0 W
theorem LongW.start (w : World) : LongW w (.slice none 0 0) (.slice none 0 0) 0 0 w := ⟨World.ownsRow_nil _ _ _ _, World.ownsRow_nil _ _ _ _, Below.refl _ _⟩
theorem LongW.below {w0 : World} {vn vr : Value} {k j : Nat} {W W' : World} (h : LongW w0 vn vr k j W) (hb : Below W.heap.size W W') : LongW w0 vn vr k j W' :=
 ⟨own_heap h.nm fun i e => hb.block i (h.nm.lt i e).2, own_heap h.rd fun i e => hb.block i (h.rd.lt i e).2, h.kept.trans (hb.mono h.kept.size)⟩
theorem LongW.name {w0 : World} {vn vr vn' : Value} {k j : Nat} {W W' : World} (h : LongW w0 vn vr k j W) (hown : W'.ownsRow w0.heap.size 9 1 vn' (k + 1) ((nmL k).map Value.string ++ [Value.string (nmK k)])) (hg : W.grownBy W' vn.ownBlock) : LongW w0 vn' vr (k + 1) j W' :=
 ⟨by rw [nm_snoc, List.map_append]; exact hown, h.rd.kept hg (own_apt h.rd h.nm (by decide)), own_below h.kept h.nm hg rr h.kept.size⟩
theorem LongW.road {w0 : World} {vn vr vr' : Value} {k j : Nat} {W W' : World} (h : LongW w0 vn vr k j W) (hown : W'.ownsRow w0.heap.size 64 3 vr' (j + 1) ((rdL j).flatMap roadC ++ roadC (rdK j))) (hg : W.grownBy W' vr.ownBlock) : LongW w0 vn vr' k (j + 1) W' :=
 ⟨h.nm.kept hg (own_apt h.nm h.rd (by decide)), by rw [rd_snoc, List.flatMap_append]; simpa using hown, own_below h.kept h.rd hg rr h.kept.size⟩
theorem conv2 (w : World) (x y : Nat) (hx : x < 256) (hy : y < 256) : (convert 102 9 (.slice (some ⟨w.heap.size, 0, none⟩) 2 2)).run Tryz.prog (w.alloc (.cells #[.int .u8 (x : Int), .int .u8 (y : Int)] 5)) = .ok (.string ⟨#[UInt8.ofNat x, UInt8.ofNat y]⟩) (w.alloc (.cells #[.int .u8 (x : Int), .int .u8 (y : Int)] 5)) := by
 refine run_convert_bytes_back (w.alloc (.cells #[.int .u8 (x : Int), .int .u8 (y : Int)] 5)) 102 9 5 ⟨w.heap.size, 0, none⟩ 2 [UInt8.ofNat x, UInt8.ofNat y] Tryz.underlying102 Tryz.underlying5 Tryz.underlying9 fun j hj => ?_
 match j, hj with
 | 0, _ =>
  rw [show ((⟨w.heap.size, 0, none⟩ : Addr).add 0) = ⟨w.heap.size, 0, none⟩ from rfl]
  refine (cell_new_at rfl).trans ?_
  simp; omega
 | 1, _ =>
  rw [show ((⟨w.heap.size, 0, none⟩ : Addr).add 1) = ⟨w.heap.size, 1, none⟩ from rfl]
  refine (cell_new_at rfl).trans ?_
  simp; omega
abbrev CaseR := WaveR × Int × Int
def caseC (q : CaseR) : List Value := [.int .i64 q.1.d.law, .slice q.1.A q.1.n q.1.c, .int .i64 q.1.d.time, .int .i64 q.1.d.slow, .int .i64 q.1.d.fin, .int .i64 q.2.1, .int .i64 q.2.2]
theorem caseC_len (q : CaseR) : (caseC q).length = 7 := rfl
structure KnC (W : World) (A : Option Addr) (cs : List CaseR) : Prop where
 row : Recs caseC 7 W A 8 8 cs
 at_ : ∀ q ∈ cs, WaveAt W q.1 ∧ (q.1.d, q.2) ∈ knWs
theorem KnC.below {W W' : World} {A : Option Addr} {cs : List CaseR} (h : KnC W A cs) (hb : Below W.heap.size W W') : KnC W' A cs :=
 ⟨h.row.below hb rr, fun q hq => ⟨(h.at_ q hq).1.below hb, (h.at_ q hq).2⟩⟩
theorem KnC.get {W : World} {A : Option Addr} {cs : List CaseR} (h : KnC W A cs) {k : Nat} (hk : k < 8) : ∃ (q : CaseR) (b off : Nat), A = some ⟨b, off, none⟩ ∧ b < W.heap.size ∧ WaveAt W q.1 ∧ (q.1.d, q.2) ∈ knWs ∧
  W.cell? ⟨b, off + k * 7, none⟩ = some (.int .i64 q.1.d.law) ∧ W.cell? ⟨b, off + k * 7 + 1, none⟩ = some (.slice q.1.A q.1.n q.1.c) ∧ W.cell? ⟨b, off + k * 7 + 2, none⟩ = some (.int .i64 q.1.d.time) ∧ W.cell? ⟨b, off + k * 7 + 3, none⟩ = some (.int .i64 q.1.d.slow) ∧
  W.cell? ⟨b, off + k * 7 + 4, none⟩ = some (.int .i64 q.1.d.fin) ∧ W.cell? ⟨b, off + k * 7 + 5, none⟩ = some (.int .i64 q.2.1) ∧ W.cell? ⟨b, off + k * 7 + 6, none⟩ = some (.int .i64 q.2.2) := by
 have hq : cs[k]? = some (cs[k]'(by rw [h.row.2]; exact hk)) := List.getElem?_eq_getElem _
 obtain ⟨b, off, hA, hb, hc⟩ := h.row.at_ caseC_len (by decide) hq
 have hm := h.at_ _ (List.mem_of_getElem? hq)
 refine ⟨_, b, off, hA, hb, hm.1, hm.2, ?_⟩
 simp only [Nat.add_assoc]
 exact ⟨hc 0 _ rfl, hc 1 _ rfl, hc 2 _ rfl, hc 3 _ rfl, hc 4 _ rfl, hc 5 _ rfl, hc 6 _ rfl⟩
theorem kn_u {q : WaveD × Int × Int} (h : q ∈ knWs) : WaveU q.1 := by
 simp only [knWs, List.mem_cons, List.not_mem_nil, or_false] at h
 have hat : ∀ L : List Int, (∀ a ∈ L, -9223372036854775808 ≤ a ∧ a ≤ 9223372036854775807) → ∀ a ∈ L, -9223372036854775808 ≤ a ∧ a ≤ 9223372036854775807 := fun _ h => h
 rcases h with rfl | rfl | rfl | rfl | rfl | rfl | rfl | rfl <;> exact ⟨by decide, by decide, by decide, by decide, by decide⟩
def knRows (p0 p1 p2 p3 : Option Addr) : List CaseR := [(⟨⟨2, [5], -1, 0, 0⟩, p0, 1, 1⟩, 3, 3), (⟨⟨-1, [], 0, 0, 0⟩, none, 0, 0⟩, 3, 0), (⟨⟨0, [1, 1, 5], 0, -1, 0⟩, p1, 3, 3⟩, 6, 6), (⟨⟨0, [1, -1, 1], 0, 0, 0⟩, p2, 3, 3⟩, 3, 3),
 (⟨⟨0, [1, 0], 0, -1, 0⟩, p3, 2, 2⟩, 2, 2), (⟨⟨0, [], 1073741825, 0, 0⟩, none, 0, 0⟩, 2, 2), (⟨⟨0, [], 1073741824, 1073741824, -9223372036854775808⟩, none, 0, 0⟩, 0, 0), (⟨⟨0, [], 0, 1073741825, 0⟩, none, 0, 0⟩, 2, 2)]
theorem knRows_c {W : World} {p0 p1 p2 p3 : Option Addr} {t : TypeId} (h0 : IsInts W p0 1 1 [5]) (h1 : IsInts W p1 3 3 [1, 1, 5]) (h2 : IsInts W p2 3 3 [1, -1, 1]) (h3 : IsInts W p3 2 2 [1, 0]) :
  KnC (W.alloc (.cells ((knRows p0 p1 p2 p3).flatMap caseC).toArray t)) (some ⟨W.heap.size, 0, none⟩) (knRows p0 p1 p2 p3) := by
 have hb : Below W.heap.size W (W.alloc (.cells ((knRows p0 p1 p2 p3).flatMap caseC).toArray t)) := (Below.refl _ W).alloc rr _
 refine ⟨⟨builtC W _ _ 8 7 rfl (by decide), rfl⟩, fun q hq => ?_⟩
 have hm : (q.1.d, q.2) ∈ knWs := by
  simp only [knRows, List.mem_cons, List.not_mem_nil, or_false] at hq
  rcases hq with rfl | rfl | rfl | rfl | rfl | rfl | rfl | rfl <;> simp [knWs]
 refine ⟨⟨?_, kn_u hm⟩, hm⟩
 simp only [knRows, List.mem_cons, List.not_mem_nil, or_false] at hq
 rcases hq with rfl | rfl | rfl | rfl | rfl | rfl | rfl | rfl
 ·exact Cells.below h0 hb rr
 ·exact Cells.nil _ _
 ·exact Cells.below h1 hb rr
 ·exact Cells.below h2 hb rr
 ·exact Cells.below h3 hb rr
 ·exact Cells.nil _ _
 ·exact Cells.nil _ _
 ·exact Cells.nil _ _
def growW (T : Int) : WaveD := ⟨0, [4], T, 0, 9⟩
def phiG (b : Nat) (ag : LawA) (T er : Int) (n : Nat) (i : Nat) (v : Value) (W : World) : Prop := match i with
 | 0 => v = .pointer (some ⟨b, 0, none⟩)
 | 1 => v = lawV growD ag ∧ LawAt W growD ag
 | 2 => ∃ x, v = .slice (some ⟨x, 0, none⟩) 1 1 ∧ IsLaws W (some ⟨x, 0, none⟩) 1 1 [⟨growD, ag⟩]
 | 3 => ∃ x, v = .slice (some ⟨x, 0, none⟩) 1 1 ∧ IsInts W (some ⟨x, 0, none⟩) 1 1 [4]
 | 4 => ∃ x, v = waveV ⟨growW T, some ⟨x, 0, none⟩, 1, 1⟩ ∧ WaveAt W ⟨growW T, some ⟨x, 0, none⟩, 1, 1⟩
 | 5 => ∃ x y, v = .slice (some ⟨y, 0, none⟩) 1 1 ∧ IsWaves W (some ⟨y, 0, none⟩) 1 1 [⟨growW T, some ⟨x, 0, none⟩, 1, 1⟩]
 | 6 => ∃ x, v = .slice (some ⟨x, 0, none⟩) 32 32 ∧ IsWord W (some ⟨x, 0, none⟩) 32 32 z32
 | 7 => ∃ A c, v = .tuple #[.slice A n c, .int .i64 er]
 | 8 => ∃ A c, v = .tuple #[.slice A n c, .int .i64 er]
 | 9 => ∃ A c, v = .slice A n c
 | 10 => v = .int .i64 er
 | 11 => ∃ A c, v = .slice A n c
 | 12 => v = .int .i64 er
 | _ => True
theorem phiG_below {b : Nat} {ag : LawA} {T er : Int} {n i : Nat} {v : Value} {w w' : World} (h : phiG b ag T er n i v w) (hb : Below w.heap.size w w') : phiG b ag T er n i v w' := by
 unfold phiG at *
 split at h
 ·exact h
 ·exact ⟨h.1, h.2.below hb rr⟩
 ·obtain ⟨x, e, h⟩ := h; exact ⟨x, e, h.below hb rr⟩
 ·obtain ⟨x, e, h⟩ := h; exact ⟨x, e, h.below hb rr⟩
 ·obtain ⟨x, e, h⟩ := h; exact ⟨x, e, h.below hb⟩
 ·obtain ⟨x, y, e, h⟩ := h; exact ⟨x, y, e, h.below hb⟩
 ·obtain ⟨x, e, h⟩ := h; exact ⟨x, e, h.below hb rr⟩
 ·exact h
 ·exact h
 ·exact h
 ·exact h
 ·exact h
 ·exact h
 ·trivial
theorem formsD_len {w w' : World} {r : Int × List (List Snd)} {n : Nat} {e : Ending} (hn : r.2.length = n) (h : RetFs w r e w') : ∃ A c, e = .returned (.tuple #[.slice A n c, .int .i64 r.1]) ∧ Below w.heap.size w w' := by
 obtain ⟨A, c, ps, rfl, hp, -, -, -, hb⟩ := h
 refine ⟨A, c, ?_, hb⟩
 have : ps.length = n := by rw [← hn, ← hp]; simp
 rw [this]
end Go.Proofs.YtaglfmlgbcmakaaGreatDoor
namespace Go.Proofs.YtaglfmlgbcmakaaGreatDoor
open Go.RowKit
def codeAt : List Nat → Code → Code
 | [], c => c
 | 0 :: p, .seq a _ => codeAt p a
 | 1 :: p, .seq _ b => codeAt p b
 | 2 :: p, .block _ b => codeAt p b
 | 2 :: p, .loop b => codeAt p b
 | _, c => c
def bodyOf (f : Func) : Code := f.body.getD .skip
end Go.Proofs.YtaglfmlgbcmakaaGreatDoor
namespace Go.Proofs.YtaglfmlgbcmakaaGreatDoor
open Go.RowKit Go.Shelf
def RetTrue (w : World) (e : Ending) (w' : World) : Prop := e = .returned (.bool true) ∧ Below w.heap.size w w'
structure KnS (w0 : World) (b : Nat) (Al : Option Addr) (xs : List LawR) (Aw : Option Addr) (ys : List WaveR) (W : World) : Prop where
 m : MapAt W b 5 exRoadN
 l : IsLaws W Al 2 2 xs
 v : IsWaves W Aw 2 2 ys
 t : TabOK W
 b : Below w0.heap.size w0 W
theorem KnS.step {w0 : World} {b : Nat} {Al : Option Addr} {xs : List LawR} {Aw : Option Addr} {ys : List WaveR} {W W' : World} (h : KnS w0 b Al xs Aw ys W) (hb : Below W.heap.size W W') : KnS w0 b Al xs Aw ys W' :=
 ⟨h.m.below hb, h.l.below hb rr, h.v.below hb, h.t.below hb rr, h.b.trans (hb.mono h.b.size)⟩
theorem mp_of {W : World} {b n : Nat} {rs : List RoadN} (h : MapAt W b n rs) : MapP W (.pointer (some ⟨b, 0, none⟩)) n rs := .inr ⟨b, rfl, h⟩
theorem run_mk_w65 (w : World) : (Instr.makeSlice 27 (.int .i64 65) (.int .i64 65)).run Tryz.prog w = .ok (.slice (some ⟨w.heap.size, 0, none⟩) 65 65) (w.alloc (.cells (wavesC 65).toArray 38)) := run_mk_waves 65 (by omega) w
theorem run_mk_l65 (w : World) : (Instr.makeSlice 26 (.int .i64 65) (.int .i64 65)).run Tryz.prog w = .ok (.slice (some ⟨w.heap.size, 0, none⟩) 65 65) (w.alloc (.cells (lawsC 65).toArray 55)) := run_mk_lawsK 65 (by omega) w
theorem run_mk_l64 (w : World) : (Instr.makeSlice 26 (.int .i64 64) (.int .i64 64)).run Tryz.prog w = .ok (.slice (some ⟨w.heap.size, 0, none⟩) 64 64) (w.alloc (.cells (lawsC 64).toArray 55)) := run_mk_lawsK 64 (by omega) w
theorem run_mk_s32 (w : World) : (Instr.makeSlice 28 (.int .i64 32) (.int .i64 32)).run Tryz.prog w = .ok (.slice (some ⟨w.heap.size, 0, none⟩) 32 32) (w.alloc (.cells (wcells z32).toArray 49)) := run_make_word 32 (by omega) w
theorem wp_value {o : Oper} {a : Act} {w : World} {K : Act → World → Prop} {Q : Exit → Act → World → Prop} (v : Value) (w' : World) (hx : (execOp a.eval o).run Tryz.prog w = .ok (.value v) w') (h : K (a.put o.dst v) w') : o.wp Tryz.prog a w K Q := by
 unfold Oper.wp; rw [hx]; exact h
theorem wp_enter {o : Oper} {a : Act} {w : World} {K : Act → World → Prop} {Q : Exit → Act → World → Prop} (f : FuncId) (args : Array Value) (hx : (execOp a.eval o).run Tryz.prog w = .ok (.enter f args) w) {R : Ending → World → Prop} (h : Calls Tryz.prog f args w R)
  (hr : ∀ e w', R e w' → ∃ v, e = .returned v ∧ K (a.put o.dst v) w') : o.wp Tryz.prog a w K Q := by
 unfold Oper.wp; rw [hx, Oper.upon_enter]
 exact h.mono fun e w' hR => by obtain ⟨v, rfl, hk⟩ := hr e w' hR; exact hk
theorem wv0_cells {W : World} {yb yo n c : Nat} {A0 : Option Addr} {n0 c0 : Nat} {l : List WaveR} (h : IsWaves W (some ⟨yb, yo, none⟩) n c (⟨wv0, A0, n0, c0⟩ :: l)) :
  W.cell? ⟨yb, yo, none⟩ = some (.int .i64 0) ∧ W.cell? ⟨yb, yo + 1, none⟩ = some (.slice A0 n0 c0) ∧ W.cell? ⟨yb, yo + 2, none⟩ = some (.int .i64 2) ∧ W.cell? ⟨yb, yo + 3, none⟩ = some (.int .i64 1) ∧ W.cell? ⟨yb, yo + 4, none⟩ = some (.int .i64 100) := by
 obtain ⟨b, off, hA, -, -, k0, k1, k2, k3, k4⟩ := h.at_ (k := 0) rfl
 obtain ⟨rfl, rfl⟩ : yb = b ∧ yo = off := by injection hA with h; injection h with h1 h2; exact ⟨h1, h2⟩
 simp only [wv0, Nat.zero_mul, Nat.add_zero] at k0 k1 k2 k3 k4
 exact ⟨k0, k1, k2, k3, k4⟩
theorem kn_f1' : ∃ L : List (List Snd), formsM38 5 exRoadN [growD] [⟨0, [4], 0, 0, 9⟩] z32 0 = (11, L) ∧ L.length = 0 := ⟨[], kn_f1, rfl⟩
theorem ev_of {a : Act} {s : Nat} {v : Value} (h : a.tmps[s]? = some v) : a.eval (.tmp s) = v := by simp [Act.eval, h]
theorem longW_u : WaveU longW := ⟨by decide, by decide, by decide, by decide, by decide⟩
def nrm (Q : Exit → Act → World → Prop) : Exit → Act → World → Prop
 | .normal, a, w => Q .normal a w
 | _, _, _ => False
theorem wp_nrm {P : Program} {c : Code} {Q : Exit → Act → World → Prop} {a : Act} {w : World} (h : Code.wp P c (nrm Q) a w) : Code.wp P c Q a w :=
 wp_mono h fun e _ _ h => by cases e <;> first | exact h | exact h.elim
theorem numbers38_c (A A' : Option Addr) (n n' c c' : Nat) (xs ys : List Int) (w : World) (hx : IsInts w A n c xs) (hy : IsInts w A' n' c' ys) :
  Calls Tryz.prog 32 #[.slice A n c, .slice A' n' c'] w fun e w' => e = .returned (.bool (decide (xs = ys))) ∧ Below w.heap.size w w' := by
 have hm := hx.max
 by_cases hn : n = n'
 ·subst hn
  have HX := hI hx; clear hx
  have HY := hI hy; clear hy
  go_enter Tryz.func32, Tryz.ntmps32
  go_wp2
  go_loopw [5] (fun i wr => ∃ k : Nat, k ≤ n ∧ i = .int .i64 k ∧ xs.take k = ys.take k ∧ Below w.heap.size w wr) (fun i _ => n - (intOf i).toNat)
  case atStart => exact ⟨0, Nat.zero_le _, rfl, by simp, bel⟩
  case round =>
   obtain ⟨k, hk, rfl, hall, hB⟩ := hrel
   have HA := hI hall; clear hall
   by_cases hlt : k < n
   ·obtain ⟨b, off, p, rfl, hb, hc0, hxk⟩ := (HX.out.below hB rr).at_ hlt
    obtain ⟨b', off', p', rfl, hb', hc0', hyk⟩ := (HY.out.below hB rr).at_ hlt
    have HK := hI hxk; clear hxk
    have HK' := hI hyk; clear hyk
    go_wp2
    by_cases h1 : p = p'
    ·subst h1
     have HS := hI (take_snoc' xs k p HK.out)
     have HS' := hI (take_snoc' ys k p HK'.out)
     have he2 : (p != p) = false := by simp
     go_quiet (fail)
     go_wp2
     go_roundw
     case rel => exact ⟨k + 1, by omega, by go_num, by rw [HS.out, HS'.out, HA.out], bel⟩
     case measure => simp [intOf]; omega
    ·have hf : decide (xs = ys) = false := by
      apply decide_eq_false
      rintro rfl
      have := HK.out.symm.trans HK'.out
      simp only [Option.some.injEq] at this
      exact h1 this
     have HF := hI hf; clear hf
     have he2 : (p != p') = true := by simpa using h1
     clear h1
     go_quiet (fail)
     go_wp2
     go_ret
     exact ⟨by rw [HF.out]; rfl, bel⟩
   ·obtain rfl : k = n := by omega
    have hf : decide (xs = ys) = true := by
     apply decide_eq_true
     have := HA.out
     rwa [List.take_of_length_le (by rw [HX.out.len]; exact rr), List.take_of_length_le (by rw [HY.out.len]; exact rr)] at this
    have HF := hI hf; clear hf
    go_wp2
    go_ret
    exact ⟨by rw [HF.out]; rfl, hB⟩
 ·have hf : decide (xs = ys) = false := by
   apply decide_eq_false
   rintro rfl
   exact hn (hx.len.symm.trans hy.len)
  have HF := hI hf; clear hf
  have hne : ((n : Int) != (n' : Int)) = true := by simp; omega
  have HX := hI hx; clear hx
  have HY := hI hy; clear hy
  go_enter Tryz.func32, Tryz.ntmps32
  go_wp2
  go_ret
  exact ⟨by rw [HF.out]; rfl, bel⟩
theorem times38_c (A A' : Option Addr) (n n' c c' : Nat) (xs ys : List Int) (w : World) (hx : IsInts w A n c xs) (hy : IsInts w A' n' c' ys) :
  Calls Tryz.prog 40 #[.slice A n c, .slice A' n' c'] w fun e w' => e = .returned (.bool (decide (xs = ys))) ∧ Below w.heap.size w w' := by
 have hm := hx.max
 by_cases hn : n = n'
 ·subst hn
  have HX := hI hx; clear hx
  have HY := hI hy; clear hy
  go_enter Tryz.func40, Tryz.ntmps40
  go_wp2
  go_loopw [5] (fun i wr => ∃ k : Nat, k ≤ n ∧ i = .int .i64 k ∧ xs.take k = ys.take k ∧ Below w.heap.size w wr) (fun i _ => n - (intOf i).toNat)
  case atStart => exact ⟨0, Nat.zero_le _, rfl, by simp, bel⟩
  case round =>
   obtain ⟨k, hk, rfl, hall, hB⟩ := hrel
   have HA := hI hall; clear hall
   by_cases hlt : k < n
   ·obtain ⟨b, off, p, rfl, hb, hc0, hxk⟩ := (HX.out.below hB rr).at_ hlt
    obtain ⟨b', off', p', rfl, hb', hc0', hyk⟩ := (HY.out.below hB rr).at_ hlt
    have HK := hI hxk; clear hxk
    have HK' := hI hyk; clear hyk
    go_wp2
    by_cases h1 : p = p'
    ·subst h1
     have HS := hI (take_snoc' xs k p HK.out)
     have HS' := hI (take_snoc' ys k p HK'.out)
     have he2 : (p != p) = false := by simp
     go_quiet (fail)
     go_wp2
     go_roundw
     case rel => exact ⟨k + 1, by omega, by go_num, by rw [HS.out, HS'.out, HA.out], bel⟩
     case measure => simp [intOf]; omega
    ·have hf : decide (xs = ys) = false := by
      apply decide_eq_false
      rintro rfl
      have := HK.out.symm.trans HK'.out
      simp only [Option.some.injEq] at this
      exact h1 this
     have HF := hI hf; clear hf
     have he2 : (p != p') = true := by simpa using h1
     clear h1
     go_quiet (fail)
     go_wp2
     go_ret
     exact ⟨by rw [HF.out]; rfl, bel⟩
   ·obtain rfl : k = n := by omega
    have hf : decide (xs = ys) = true := by
     apply decide_eq_true
     have := HA.out
     rwa [List.take_of_length_le (by rw [HX.out.len]; exact rr), List.take_of_length_le (by rw [HY.out.len]; exact rr)] at this
    have HF := hI hf; clear hf
    go_wp2
    go_ret
    exact ⟨by rw [HF.out]; rfl, hB⟩
 ·have hf : decide (xs = ys) = false := by
   apply decide_eq_false
   rintro rfl
   exact hn (hx.len.symm.trans hy.len)
  have HF := hI hf; clear hf
  have hne : ((n : Int) != (n' : Int)) = true := by simp; omega
  have HX := hI hx; clear hx
  have HY := hI hy; clear hy
  go_enter Tryz.func40, Tryz.ntmps40
  go_wp2
  go_ret
  exact ⟨by rw [HF.out]; rfl, bel⟩
end Go.Proofs.YtaglfmlgbcmakaaGreatDoor

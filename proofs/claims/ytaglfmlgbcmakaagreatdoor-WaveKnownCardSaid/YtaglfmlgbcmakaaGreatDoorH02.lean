/-
  WaveKnown's examples, in plain words.
  points.Map: Len, has.
  slices.MinFunc, DeleteFunc, SortFunc and an insertion sort at this program: tables of numbers, and facts of the program (written by the kit's lay-plain).
  The nearest open point first (chapter 36), in plain words: how long it goes on, and how large the numbers become.
  cmp.Compare over int64 and int; slices.MinFunc and slices.DeleteFunc as points.Map's from calls them.
  slices.MinFunc and slices.DeleteFunc, as points.Map's from calls them.
  Maps in memory (chapter 36).
  points.Map's from: the distances of all points from one.
  points.Map's Dist and Roads.
  Waves in memory (chapter 38).
-/
import Derived.Shelf.SlCmpFuncs.MinMaxFunc
import Derived.Shelf.SlicesE.DeleteFunc
import Derived.Shelf.SlSortCmp.NoneTotal
import Derived.Shelf.SlGeneric
import Derived.Deep.OwnRows
import Derived.Lib.SliceRun
import Derived.Deep.CutRange
import Derived.Deep.CutBlock
import Derived.Deep.DeepCutAuto
import Derived.Test.YtaglfmlgbcmakaaGreatDoorH01
import Derived.Test.YtaglfmlgbcmakaaGreatDoorG40
import Derived.Test.YtaglfmlgbcmakaaGreatDoorG33
set_option linter.all false
set_option maxRecDepth 100000
set_option maxHeartbeats 4000000
namespace Go.Proofs.YtaglfmlgbcmakaaGreatDoor
open Go.RowKit
theorem kn_rel1 : relicsM 5 exRoadN [vD, fD] [wv0, wv1] 1 = (0, [0, 4]) := by kernel_rfl
theorem kn_rel2 : relicsM 5 exRoadN [vD, fD] [wv0, wv1] 2 = (3, []) := by kernel_rfl
theorem kn_cross : crossedM 5 exRoadN [vD, fD] [wv0, wv1] 1 0 = (0, [2, 3]) := by kernel_rfl
theorem kn_vals : valuesM 5 exRoadN [vD, fD] [wv0, wv1] [sA, sP, sA] 12 = (0, [0, 1, 2, 2, 4]) := by kernel_rfl
theorem kn_line11 : lineM 5 exRoadN [vD, fD] [wv0, wv1] 1 11 = (0, [0]) := by kernel_rfl
theorem kn_line12 : lineM 5 exRoadN [vD, fD] [wv0, wv1] 1 12 = (0, [0, 1]) := by kernel_rfl
theorem kn_new0 : newE [] [] = 0 := by kernel_rfl
def zeroL : LawD := { name := ⟨#[]⟩, left := (⟨0, 0, 0, false, 0, 0⟩, .nil), right := (⟨0, 0, 0, false, 0, 0⟩, .nil), ifs := [], outs := [], mode := 0 }
def zeroW : WaveD := ⟨0, [], 0, 0, 0⟩
theorem kn_c4 (ws : List WaveD) : waveE 5 (List.replicate 65 zeroL) ws = 12 := by
 have h : lawsE (List.replicate 65 zeroL) = 12 := by unfold lawsE; rw [if_pos (by simp)]
 unfold waveE; rw [if_neg (by decide), if_pos (by rw [h]; decide), h]
theorem kn_c5 (ws : List WaveD) : waveE 5 (List.replicate 64 zeroL) ws = 17 := by
 have h : lawsE (List.replicate 64 zeroL) = 17 := by kernel_rfl
 unfold waveE; rw [if_neg (by decide), if_pos (by rw [h]; decide), h]
theorem kn_c6 : waveE 5 [vD, fD] (List.replicate 65 zeroW) = 12 := by kernel_rfl
theorem kn_c7 : waveE 5 [vD, fD] (List.replicate 64 zeroW) = 0 := by kernel_rfl
theorem kn_c8 : waveE 5 [] [] = 0 := by kernel_rfl
def knWs : List (WaveD × Int × Int) := [(⟨2, [5], -1, 0, 0⟩, 3, 3), (⟨-1, [], 0, 0, 0⟩, 3, 0), (⟨0, [1, 1, 5], 0, -1, 0⟩, 6, 6), (⟨0, [1, -1, 1], 0, 0, 0⟩, 3, 3),
 (⟨0, [1, 0], 0, -1, 0⟩, 2, 2), (⟨0, [], 1073741825, 0, 0⟩, 2, 2), (⟨0, [], 1073741824, 1073741824, -9223372036854775808⟩, 0, 0), (⟨0, [], 0, 1073741825, 0⟩, 2, 2)]
def sBad : Snd := (1, 1)
def knowsB (q : WaveD × Int × Int) : Bool :=
 waveE 5 [vD, fD] [q.1] == q.2.1 && (arriveM 5 exRoadN q.1).1 == q.2.2 && (if q.2.1 = 0 then (lineM 5 exRoadN [vD, fD] [q.1] 9 0).1 == 3 && (formsM38 5 exRoadN [vD, fD] [wv0, q.1] [sBad] 0).1 == 14
  else (lineM 5 exRoadN [vD, fD] [q.1] 9 0).1 == q.2.1 && (formsM38 5 exRoadN [vD, fD] [wv0, q.1] [sBad] 0).1 == q.2.1)
theorem kn_all : knWs.all knowsB = true := by kernel_rfl
theorem kn_case {q : WaveD × Int × Int} (h : q ∈ knWs) : waveE 5 [vD, fD] [q.1] = q.2.1 ∧ (arriveM 5 exRoadN q.1).1 = q.2.2 ∧
  (q.2.1 = 0 → (lineM 5 exRoadN [vD, fD] [q.1] 9 0).1 = 3 ∧ (formsM38 5 exRoadN [vD, fD] [wv0, q.1] [sBad] 0).1 = 14) ∧
  (q.2.1 ≠ 0 → (lineM 5 exRoadN [vD, fD] [q.1] 9 0).1 = q.2.1 ∧ (formsM38 5 exRoadN [vD, fD] [wv0, q.1] [sBad] 0).1 = q.2.1) := by
 have h1 := List.all_eq_true.1 kn_all q h
 unfold knowsB at h1
 simp only [Bool.and_eq_true, beq_iff_eq] at h1
 obtain ⟨⟨h2, h3⟩, h4⟩ := h1
 refine ⟨h2, h3, fun e => ?_, fun e => ?_⟩
 ·rw [if_pos e] at h4; simpa using h4
 ·rw [if_neg e] at h4; simpa using h4
theorem kn_arr2 : arriveM 5 exRoadN ⟨0, [0, 2], 7, 2, 13⟩ = (0, [7, -1, 7, 9, -1]) := by kernel_rfl
theorem kn_arr3 : arriveM 5 exRoadN ⟨0, [0, 2], 7, 0, 7⟩ = (0, [-1, -1, -1, -1, -1]) := by kernel_rfl
theorem kn_arr4 : arriveM 5 exRoadN ⟨0, [], 7, 0, 99⟩ = (0, [-1, -1, -1, -1, -1]) := by kernel_rfl
theorem kn_long : ∃ L : List Int, arriveM 128 longN longW = (0, L) ∧ L.length = 128 ∧ L[0]? = some 5 ∧ L[7]? = some 8070450532247928837 ∧ L[8]? = some (-1) ∧ L[127]? = some (-1) := by
 refine ⟨(List.range 128).map fun a => arrI (arrM 128 longN longW a), ?_, by simp, ?_, ?_, ?_, ?_⟩
 ·unfold arriveM; rw [if_neg (by decide), if_neg (by rw [long_one]; decide)]
 ·rw [List.getElem?_map, List.getElem?_range (by decide)]
  show some (arrI (arrM 128 longN longW 0)) = _
  rw [long_in (by decide)]; rfl
 ·rw [List.getElem?_map, List.getElem?_range (by decide)]
  show some (arrI (arrM 128 longN longW 7)) = _
  rw [long_in (by decide)]; rfl
 ·rw [List.getElem?_map, List.getElem?_range (by decide)]
  show some (arrI (arrM 128 longN longW 8)) = _
  rw [long_out (by decide) (by decide)]; rfl
 ·rw [List.getElem?_map, List.getElem?_range (by decide)]
  show some (arrI (arrM 128 longN longW 127)) = _
  rw [long_out (by decide) (by decide)]; rfl
theorem kn_e1 : crossedM 5 exRoadN [vD, fD] [wv0, wv1] 0 2 = (3, []) := by kernel_rfl
theorem kn_e2 : crossedM 5 exRoadN [vD, fD] [wv0, wv1] (-1) 0 = (3, []) := by kernel_rfl
theorem kn_e3 : lineM 5 exRoadN [vD, fD] [wv0, wv1] 5 0 = (3, []) := by kernel_rfl
def growD : LawD := { name := ⟨#[88]⟩, left := (⟨2, 0, 0, false, 0, 0⟩, .nil), right := (⟨0, 0, 0, false, 0, 0⟩, .nil), ifs := [], outs := [⟨-1, 0, 5, 2, 0, 0⟩], mode := 1 }
def z32 : List Snd := List.replicate 32 (0, 0)
theorem kn_f1 : formsM38 5 exRoadN [growD] [⟨0, [4], 0, 0, 9⟩] z32 0 = (11, []) := by kernel_rfl
theorem kn_f2 : ∃ L : List (List Snd), formsM38 5 exRoadN [growD] [⟨0, [4], 1, 0, 9⟩] z32 0 = (0, L) ∧ L.length = 5 := ⟨List.replicate 5 z32, by kernel_rfl, by simp⟩
theorem mlen_c (b : Nat) (A : Option Addr) (n c : Nat) (w : World) (h : w.cell? ⟨b, 0, none⟩ = some (.slice A n c)) :
  Calls Tryz.prog 19 #[.pointer (some ⟨b, 0, none⟩)] w fun e w' => e = .returned (.int .i64 n) ∧ Below w.heap.size w w' := by
 go_enter Tryz.func19, Tryz.ntmps19
 go_wp2
 go_ret
 exact ⟨rfl, Below.refl _ _⟩
theorem mlen0_c (w : World) : Calls Tryz.prog 19 #[.pointer none] w fun e w' => e = .returned (.int .i64 0) ∧ Below w.heap.size w w' := by
 go_enter Tryz.func19, Tryz.ntmps19
 go_wp2
 go_ret
 exact ⟨rfl, Below.refl _ _⟩
theorem mhas_c (b : Nat) (A : Option Addr) (n c : Nat) (a : Int) (w : World) (h : w.cell? ⟨b, 0, none⟩ = some (.slice A n c)) :
  Calls Tryz.prog 63 #[.pointer (some ⟨b, 0, none⟩), .int .i64 a] w fun e w' => e = .returned (.bool (decide (0 ≤ a ∧ a < n))) ∧ Below w.heap.size w w' := by
 go_enter Tryz.func63, Tryz.ntmps63
 by_cases h0 : 0 ≤ a
 ·go_wp2_with fail
  refine (mlen_c b A n c w h).mono ?_
  rintro e w1 ⟨rfl, hb1⟩
  go_wp2
  go_ret
  refine ⟨?_, hb1⟩
  simp [h0]
 ·have h1 : ¬ (0 ≤ a ∧ a < (n : Int)) := fun e => h0 e.1
  go_wp2
  go_ret
  exact ⟨by simp [h1], Below.refl _ _⟩
end Go.Proofs.YtaglfmlgbcmakaaGreatDoor
namespace Go.Proofs
open Go.Shelf
def Tryz.minI_ren : Go.Shelf.Ren := ⟨fun | 10 => 107 | n => n, fun | 22 => 36 | 24 => 3 | 25 => 115 | 3 => 3 | 4 => 4 | 9 => 9 | 20 => 20 | 0 => 0 | n => n, fun | n => n⟩
theorem Tryz.minI : Go.Proofs.SlLaysG2.n10 Tryz.prog Tryz.minI_ren := {
 mixed := by kernel_rfl
 f10 := ⟨Tryz.f107.name, by decide, Tryz.func107.trans (congrArg some (by kernel_rfl))⟩
 t0 := Tryz.underlying0
 a0 := Tryz.isAgg0
 z0 := Tryz.sizeOf0
 v0 := Tryz.zeroValue0
 t3 := Tryz.underlying3
 a3 := Tryz.isAgg3
 z3 := Tryz.sizeOf3
 v3 := Tryz.zeroValue3
 t4 := Tryz.underlying4
 a4 := Tryz.isAgg4
 z4 := Tryz.sizeOf4
 v4 := Tryz.zeroValue4
 t9 := Tryz.underlying9
 a9 := Tryz.isAgg9
 z9 := Tryz.sizeOf9
 v9 := Tryz.zeroValue9
 t20 := Tryz.underlying20
 a20 := Tryz.isAgg20
 z20 := Tryz.sizeOf20
 v20 := Tryz.zeroValue20
 t22 := Tryz.underlying36
 a22 := Tryz.isAgg36
 z22 := Tryz.sizeOf36
 v22 := Tryz.zeroValue36
 a24 := Tryz.isAgg3
 z24 := Tryz.sizeOf3
 t25 := Tryz.underlying115
 a25 := Tryz.isAgg115
 z25 := Tryz.sizeOf115
 v25 := Tryz.zeroValue115 }
def Tryz.delI_ren : Go.Shelf.Ren := ⟨fun | 10 => 108 | 6 => 144 | n => n, fun | 22 => 36 | 23 => 3 | 25 => 125 | 3 => 3 | 4 => 4 | 0 => 0 | n => n, fun | n => n⟩
theorem Tryz.delI : Go.Proofs.SlLaysH.n10 Tryz.prog Tryz.delI_ren := {
 mixed := by kernel_rfl
 f6 := ⟨Tryz.f144.name, by decide, Tryz.func144.trans (congrArg some (by kernel_rfl))⟩
 f10 := ⟨Tryz.f108.name, by decide, Tryz.func108.trans (congrArg some (by kernel_rfl))⟩
 t0 := Tryz.underlying0
 a0 := Tryz.isAgg0
 z0 := Tryz.sizeOf0
 v0 := Tryz.zeroValue0
 t3 := Tryz.underlying3
 a3 := Tryz.isAgg3
 z3 := Tryz.sizeOf3
 v3 := Tryz.zeroValue3
 t4 := Tryz.underlying4
 a4 := Tryz.isAgg4
 z4 := Tryz.sizeOf4
 v4 := Tryz.zeroValue4
 t22 := Tryz.underlying36
 a22 := Tryz.isAgg36
 z22 := Tryz.sizeOf36
 v22 := Tryz.zeroValue36
 a23 := Tryz.isAgg3
 z23 := Tryz.sizeOf3
 t25 := Tryz.underlying125
 a25 := Tryz.isAgg125
 z25 := Tryz.sizeOf125
 v25 := Tryz.zeroValue125 }
def Tryz.sortEnd_ren : Go.Shelf.Ren := ⟨fun | 6 => 55 | 15 => 100 | 14 => 99 | 28 => 138 | 29 => 139 | 20 => 130 | 21 => 131 | 22 => 132 | 23 => 133 | 24 => 134 | 25 => 135 | 26 => 136 | 27 => 137 | 46 => 166 | 47 => 167 | 48 => 168 | 49 => 169 | 50 => 170 | 57 => 184 | n => n, fun | 22 => 110 | 24 => 112 | 25 => 116 | 3 => 3 | 39 => 156 | 0 => 0 | 53 => 47 | 55 => 81 | 4 => 4 | 46 => 185 | 45 => 184 | 50 => 108 | 5 => 5 | 9 => 9 | 66 => 209 | 70 => 213 | 76 => 234 | 77 => 235 | n => n, fun | n => n⟩
theorem Tryz.sortEnd : Go.Proofs.SlLaysF0.n6 Tryz.prog Tryz.sortEnd_ren := {
 mixed := by kernel_rfl
 f6 := ⟨Tryz.f55.name, by decide, Tryz.func55.trans (congrArg some (by kernel_rfl))⟩
 f14 := ⟨Tryz.f99.name, by decide, Tryz.func99.trans (congrArg some (by kernel_rfl))⟩
 f15 := Tryz.func100.trans (congrArg some (by kernel_rfl))
 f20 := ⟨Tryz.f130.name, by decide, Tryz.func130.trans (congrArg some (by kernel_rfl))⟩
 f21 := ⟨Tryz.f131.name, by decide, Tryz.func131.trans (congrArg some (by kernel_rfl))⟩
 f22 := ⟨Tryz.f132.name, by decide, Tryz.func132.trans (congrArg some (by kernel_rfl))⟩
 f23 := ⟨Tryz.f133.name, by decide, Tryz.func133.trans (congrArg some (by kernel_rfl))⟩
 f24 := ⟨Tryz.f134.name, by decide, Tryz.func134.trans (congrArg some (by kernel_rfl))⟩
 f25 := ⟨Tryz.f135.name, by decide, Tryz.func135.trans (congrArg some (by kernel_rfl))⟩
 f26 := ⟨Tryz.f136.name, by decide, Tryz.func136.trans (congrArg some (by kernel_rfl))⟩
 f27 := ⟨Tryz.f137.name, by decide, Tryz.func137.trans (congrArg some (by kernel_rfl))⟩
 f28 := Tryz.func138.trans (congrArg some (by kernel_rfl))
 f29 := Tryz.func139.trans (congrArg some (by kernel_rfl))
 f46 := ⟨Tryz.f166.name, by decide, Tryz.func166.trans (congrArg some (by kernel_rfl))⟩
 f47 := Tryz.func167.trans (congrArg some (by kernel_rfl))
 f48 := Tryz.func168.trans (congrArg some (by kernel_rfl))
 f49 := ⟨Tryz.f169.name, by decide, Tryz.func169.trans (congrArg some (by kernel_rfl))⟩
 f50 := ⟨Tryz.f170.name, by decide, Tryz.func170.trans (congrArg some (by kernel_rfl))⟩
 f57 := ⟨Tryz.f184.name, by decide, Tryz.func184.trans (congrArg some (by kernel_rfl))⟩
 t0 := Tryz.underlying0
 a0 := Tryz.isAgg0
 z0 := Tryz.sizeOf0
 v0 := Tryz.zeroValue0
 t3 := Tryz.underlying3
 a3 := Tryz.isAgg3
 z3 := Tryz.sizeOf3
 v3 := Tryz.zeroValue3
 t4 := Tryz.underlying4
 a4 := Tryz.isAgg4
 z4 := Tryz.sizeOf4
 v4 := Tryz.zeroValue4
 t5 := Tryz.underlying5
 a5 := Tryz.isAgg5
 z5 := Tryz.sizeOf5
 v5 := Tryz.zeroValue5
 t9 := Tryz.underlying9
 a9 := Tryz.isAgg9
 z9 := Tryz.sizeOf9
 v9 := Tryz.zeroValue9
 t22 := Tryz.underlying110
 a22 := Tryz.isAgg110
 z22 := Tryz.sizeOf110
 v22 := Tryz.zeroValue110
 t25 := Tryz.underlying116
 a25 := Tryz.isAgg116
 z25 := Tryz.sizeOf116
 v25 := Tryz.zeroValue116
 t39 := Tryz.underlying156
 a39 := Tryz.isAgg156
 z39 := Tryz.sizeOf156
 v39 := Tryz.zeroValue156
 t45 := Tryz.underlying184
 a45 := Tryz.isAgg184
 z45 := Tryz.sizeOf184
 v45 := Tryz.zeroValue184
 t46 := Tryz.underlying185
 a46 := Tryz.isAgg185
 z46 := Tryz.sizeOf185
 v46 := Tryz.zeroValue185
 t50 := Tryz.underlying108
 a50 := Tryz.isAgg108
 z50 := Tryz.sizeOf108
 v50 := Tryz.zeroValue108
 t53 := Tryz.underlying47
 a53 := Tryz.isAgg47
 z53 := Tryz.sizeOf47
 v53 := Tryz.zeroValue47
 t55 := Tryz.underlying81
 a55 := Tryz.isAgg81
 z55 := Tryz.sizeOf81
 v55 := Tryz.zeroValue81
 t66 := Tryz.underlying209
 a66 := Tryz.isAgg209
 z66 := Tryz.sizeOf209
 v66 := Tryz.zeroValue209
 t70 := Tryz.underlying213
 a70 := Tryz.isAgg213
 z70 := Tryz.sizeOf213
 v70 := Tryz.zeroValue213
 t76 := Tryz.underlying234
 a76 := Tryz.isAgg234
 z76 := Tryz.sizeOf234
 v76 := Tryz.zeroValue234
 t77 := Tryz.underlying235
 a77 := Tryz.isAgg235
 z77 := Tryz.sizeOf235
 v77 := Tryz.zeroValue235 }
def Tryz.insI_ren : Go.Shelf.Ren := ⟨fun | 20 => 185 | n => n, fun | 24 => 3 | 22 => 36 | 3 => 3 | 25 => 115 | 4 => 4 | 0 => 0 | n => n, fun | n => n⟩
theorem Tryz.insI : Go.Proofs.SlLaysF.n20 Tryz.prog Tryz.insI_ren := {
 mixed := by kernel_rfl
 f20 := ⟨Tryz.f185.name, by decide, Tryz.func185.trans (congrArg some (by kernel_rfl))⟩
 t0 := Tryz.underlying0
 a0 := Tryz.isAgg0
 z0 := Tryz.sizeOf0
 v0 := Tryz.zeroValue0
 t3 := Tryz.underlying3
 a3 := Tryz.isAgg3
 z3 := Tryz.sizeOf3
 v3 := Tryz.zeroValue3
 t4 := Tryz.underlying4
 a4 := Tryz.isAgg4
 z4 := Tryz.sizeOf4
 v4 := Tryz.zeroValue4
 t22 := Tryz.underlying36
 a22 := Tryz.isAgg36
 z22 := Tryz.sizeOf36
 v22 := Tryz.zeroValue36
 a24 := Tryz.isAgg3
 z24 := Tryz.sizeOf3
 t25 := Tryz.underlying115
 a25 := Tryz.isAgg115
 z25 := Tryz.sizeOf115
 v25 := Tryz.zeroValue115 }
end Go.Proofs
namespace Go.Proofs.YtaglfmlgbcmakaaGreatDoor
open Go.RowKit
set_option maxRecDepth 100000
def noneN (n : Nat) (D : Nat → Option Nat) : Nat := ((List.range n).filter fun v => (D v).isNone).length
theorem none_upd {n : Nat} {D : Nat → Option Nat} {x d : Nat} (hx : x < n) (h : D x = none) : noneN n (updD D x d) < noneN n D := by
 unfold noneN
 refine filter_lt (p := fun v => (updD D x d v).isNone) (q := fun v => (D v).isNone) (fun v hv => ?_) (y := x) (by simp [updD_self]) (by simp [h]) _ (List.mem_range.2 hx)
 by_cases e : v = x
 ·subst e; simp [h]
 ·rw [updD_ne _ _ e] at hv; exact hv
theorem none_upd' {n : Nat} {D : Nat → Option Nat} {x d : Nat} : noneN n (updD D x d) ≤ noneN n D := by
 unfold noneN
 refine filter_le (p := fun v => (updD D x d v).isNone) (q := fun v => (D v).isNone) (fun v hv => ?_) _
 by_cases e : v = x
 ·subst e; rw [updD_self] at hv; cases hv
 ·rw [updD_ne _ _ e] at hv; exact hv
theorem filter_lt_list {a : Nat} : ∀ {op : List Nat}, a ∈ op → (op.filter fun x => !decide (x = a)).length < op.length
 | y :: ys, h => by
  by_cases e : y = a
  ·subst e
   rw [List.filter_cons_of_neg (by simp)]
   have := List.length_filter_le (fun x => !decide (x = y)) ys
   simp; omega
  ·rw [List.filter_cons_of_pos (by simp [e])]
   have h' : a ∈ ys := by
    rcases List.mem_cons.1 h with h | h
    ·exact absurd h.symm e
    ·exact h
   have := filter_lt_list h'
   simp; omega
structure DB (n m : Nat) (D : Nat → Option Nat) (op : List Nat) : Prop where
 out : ∀ v d, D v = some d → v < n
 inn : ∀ v ∈ op, v < n
 me : 2 * noneN n D + op.length ≤ m
 bd : ∀ v d, D v = some d → d + m * 1073741824 ≤ 2 * n * 1073741824
theorem DB.begin {n a : Nat} (ha : a < n) : DB n (2 * n - 1) (fun v => if v = a then some 0 else none) [a] where
 out := fun v d h => by
  by_cases e : v = a
  ·subst e; exact ha
  ·simp [e] at h
 inn := fun v hv => by simp at hv; subst hv; exact ha
 me := by
  have h1 : noneN n (fun v => if v = a then some 0 else none) < n := by
   unfold noneN
   have := filter_lt (p := fun v => (if v = a then some 0 else none : Option Nat).isNone) (q := fun _ => true) (fun _ _ => rfl) (y := a) (by simp) rfl (List.range n) (List.mem_range.2 ha)
   rw [List.filter_eq_self.2 (fun _ _ => rfl), List.length_range] at this
   exact this
  simp; omega
 bd := fun v d h => by
  by_cases e : v = a
  ·subst e; simp at h; subst h
   rw [Nat.zero_add]
   exact Nat.mul_le_mul_right _ (Nat.sub_le (2 * n) 1)
  ·simp [e] at h
theorem DB.pos {n m at_ : Nat} {D : Nat → Option Nat} {op : List Nat} (h : DB n m D op) (ha : at_ ∈ op) : 0 < m := by
 have h1 := List.length_pos_of_mem ha
 have h2 := h.me
 omega
theorem DB.del {n m at_ dAt : Nat} {D : Nat → Option Nat} {op : List Nat} (h : DB n (m + 1) D op) (ha : at_ ∈ op) (hd : D at_ = some dAt) : DB n m D (op.filter fun x => !decide (x = at_)) ∧ dAt + 1073741824 + m * 1073741824 ≤ 2 * n * 1073741824 := by
 have hlt : (op.filter fun x => !decide (x = at_)).length < op.length := by
  have := filter_lt_list ha
  exact this
 refine ⟨⟨h.out, fun v hv => h.inn v (List.mem_filter.1 hv).1, ?_, fun v d hv => ?_⟩, ?_⟩
 ·have := h.me; omega
 ·have := h.bd v d hv
  rw [Nat.add_mul m 1, Nat.one_mul] at this
  generalize 1073741824 = C at this ⊢
  generalize 2 * n * C = X at this ⊢
  omega
 ·have := h.bd at_ dAt hd
  rw [Nat.add_mul m 1, Nat.one_mul] at this
  generalize 1073741824 = C at this ⊢
  generalize 2 * n * C = X at this ⊢
  omega
theorem DB.relax {n m dAt x l : Nat} {D : Nat → Option Nat} {op : List Nat} (h : DB n m D op) (hb : dAt + 1073741824 + m * 1073741824 ≤ 2 * n * 1073741824) (hx : x < n) (hl : l ≤ 1073741824) : DB n m (relax1 dAt x l (D, op)).1 (relax1 dAt x l (D, op)).2 := by
 have hout : ∀ v d, updD D x (dAt + l) v = some d → v < n := fun v d hv => by
  by_cases e : v = x
  ·subst e; exact hx
  ·rw [updD_ne _ _ e] at hv; exact h.out v d hv
 have hbd : ∀ v d, updD D x (dAt + l) v = some d → d + m * 1073741824 ≤ 2 * n * 1073741824 := fun v d hv => by
  by_cases e : v = x
  ·subst e; rw [updD_self] at hv; cases hv; omega
  ·rw [updD_ne _ _ e] at hv; exact h.bd v d hv
 unfold relax1
 dsimp only
 cases hD : D x with
 | none =>
  refine ⟨hout, fun v hv => ?_, ?_, hbd⟩
  ·rcases List.mem_append.1 hv with hv | hv
   ·exact h.inn v hv
   ·have : v = x := by simpa using hv
    subst this; exact hx
  ·have h1 := none_upd (d := dAt + l) hx hD
   have h2 := h.me
   show 2 * noneN n (updD D x (dAt + l)) + (op ++ [x]).length ≤ m
   rw [List.length_append]
   simp only [List.length_cons, List.length_nil]
   omega
 | some dx =>
  dsimp only
  split
  ·exact h
  ·refine ⟨hout, h.inn, ?_, hbd⟩
   have h1 := none_upd' (n := n) (D := D) (x := x) (d := dAt + l)
   have h2 := h.me
   show 2 * noneN n (updD D x (dAt + l)) + op.length ≤ m
   omega
end Go.Proofs.YtaglfmlgbcmakaaGreatDoor
namespace Go.Proofs.YtaglfmlgbcmakaaGreatDoor
open Go.RowKit Go.Shelf Go.Sort Go.Lib
def cmpQ (x y : Int) : Int := if x < y then -1 else if y < x then 1 else 0
theorem isNaN64_c (x : Int) (w : World) : Calls Tryz.prog 118 #[.int .i64 x] w fun e w' => e = .returned (.bool false) ∧ w' = w := by
 go_enter Tryz.func118, Tryz.ntmps118
 go_wp2
 go_ret
 simp
theorem cmp64_c (x y : Int) (w : World) : Calls Tryz.prog 79 #[.int .i64 x, .int .i64 y] w fun e w' => e = .returned (.int .i64 (cmpQ x y)) ∧ w' = w := by
 go_enter Tryz.func79, Tryz.ntmps79
 by_cases h1 : x < y
 ·have h2 : cmpQ x y = -1 := by unfold cmpQ; rw [if_pos h1]
  rw [h2]
  go_wp2_with (go_at_call 118; refine (isNaN64_c _ _).mono ?_; rintro e w1 ⟨rfl, rfl⟩)
  go_ret
  exact ⟨rfl, rfl⟩
 ·by_cases h2 : y < x
  ·have h3 : cmpQ x y = 1 := by unfold cmpQ; rw [if_neg h1, if_pos h2]
   rw [h3]
   go_wp2_with (go_at_call 118; refine (isNaN64_c _ _).mono ?_; rintro e w1 ⟨rfl, rfl⟩)
   go_ret
   exact ⟨rfl, rfl⟩
  ·have h3 : cmpQ x y = 0 := by unfold cmpQ; rw [if_neg h1, if_neg h2]
   rw [h3]
   go_wp2_with (go_at_call 118; refine (isNaN64_c _ _).mono ?_; rintro e w1 ⟨rfl, rfl⟩)
   go_ret
   exact ⟨rfl, rfl⟩
def rowI (n : Nat) (f : Nat → Int) : Array Value := ((List.range n).map fun v => Value.int .i64 (f v)).toArray
theorem rowI_at {n v : Nat} (f : Nat → Int) (h : v < n) : (rowI n f)[v]? = some (.int .i64 (f v)) := by
 unfold rowI; simp [h]
theorem rowI_set {n k : Nat} {f g : Nat → Int} {x : Int} (hk : g k = x) (h : ∀ v, v < n → v ≠ k → g v = f v) : (rowI n f).setIfInBounds k (.int .i64 x) = rowI n g := by
 unfold rowI
 apply Array.ext
 ·simp
 ·intro i h1 h2
  have hi : i < n := by simpa using h2
  by_cases e : i = k
  ·subst e; simp [hk]
  ·simp [Ne.symm e, h i hi e]
theorem rowI_cell {n v g : Nat} {f : Nat → Int} {t : TypeId} {w : World} (hg : w.heap[g]? = some (.cells (rowI n f) t (0, 0))) (h : v < n) : w.cell? ⟨g, v, none⟩ = some (.int .i64 (f v)) := cell_at_heap hg (rowI_at f h)
theorem made_rowI (n : Nat) : madeCells #[.int .i64 0] n = rowI n fun _ => 0 := by
 unfold madeCells rowI
 apply Array.ext
 ·simp
 ·intro i h1 h2
  simp [Nat.mod_one]
abbrev rowD (n : Nat) (D : Nat → Option Nat) : Array Value := rowI n fun v => arrI (D v)
theorem rowD_at {n v : Nat} (D : Nat → Option Nat) (h : v < n) : (rowD n D)[v]? = some (.int .i64 (arrI (D v))) := rowI_at _ h
theorem i64_info : (Tryz.prog.info? 2).map (fun i => (i.zero, i.size, i.bytes)) = some (some (.int .i64 0), 1, 8) := by kernel_rfl
theorem nearer_c (n x y bx gd : Nat) (D : Nat → Option Nat) (hx : x < n) (hy : y < n) (w : World) (hbx : w.heap[bx]? = some (.cells #[.slice (some ⟨gd, 0, none⟩) n n] 42 (0, 0))) (hgd : w.heap[gd]? = some (.cells (rowD n D) 2 (0, 0))) :
  Calls Tryz.prog 106 #[.int .i64 (x : Int), .int .i64 (y : Int), .pointer (some ⟨bx, 0, none⟩)] w fun e w' => e = .returned (.int .i64 (cmpQ (arrI (D x)) (arrI (D y)))) ∧ w' = w.drewN 1 := by
 have c0 : w.cell? ⟨bx, 0, none⟩ = some (.slice (some ⟨gd, 0, none⟩) n n) := by simp [World.cell?, hbx]
 have cx : w.cell? ⟨gd, x, none⟩ = some (.int .i64 (arrI (D x))) := by simp [World.cell?, hgd, rowD_at D hx]
 have cy : w.cell? ⟨gd, y, none⟩ = some (.int .i64 (arrI (D y))) := by simp [World.cell?, hgd, rowD_at D hy]
 have hxn : (x : Int) < (n : Int) := by omega
 have hyn : (y : Int) < (n : Int) := by omega
 clear hbx hgd hx hy
 go_enter Tryz.func106, Tryz.ntmps106
 go_wp2_with fail
 refine plain_region (fun W' => W'.cell? ⟨bx, 0, none⟩ = some (.slice (some ⟨gd, 0, none⟩) n n) ∧ W'.cell? ⟨gd, x, none⟩ = some (.int .i64 (arrI (D x))) ∧ W'.cell? ⟨gd, y, none⟩ = some (.int .i64 (arrI (D y)))) (by kernel_rfl) ⟨c0, cx, cy⟩ (fun hHeld => ?_)
 (refine' anyT_tk 0 rfl ?_; (try simp only [Act.put, nY, nX])); (refine' anyT_tk 1 rfl ?_; (try simp only [Act.put, nY, nX])); (refine' anyT_tk 2 rfl ?_; (try simp only [Act.put, nY, nX])); (refine' anyT_tk 3 rfl ?_; (try simp only [Act.put, nY, nX])); (refine' anyT_tk 4 rfl ?_; (try simp only [Act.put, nY, nX])); (refine' anyT_tk 5 rfl ?_; (try simp only [Act.put, nY, nX])); (refine' anyT_tk 6 rfl ?_; (try simp only [Act.put, nY, nX])); (refine' anyT_tk 7 rfl ?_; (try simp only [Act.put, nY, nX]))
 (refine anyT_sp 8 rfl (fun K' hK' => ?_); simp only [nY]; go_simp)
 refine (cmp64_c (arrI (D x)) (arrI (D y)) _).mono ?_
 rintro e w1 ⟨rfl, rfl⟩
 refine hK' _ _ ⟨.inr hHeld, fun _ => ?_⟩
 clear hK' K'
 (try simp only [Act.put, nY, nX])
 (refine anyT_sp 9 rfl (fun K' hK' => ?_); simp only [nY]; go_simp)
 refine hK' _ _ ⟨.inl (by kernel_rfl), fun _ => anyT_done (by kernel_rfl) ?_ _⟩
 clear hK' K'
 go_wp2
 go_ret
 exact ⟨rfl, rfl⟩
theorem pick_min {α : Type} [Inhabited α] (f : α → Int) (d : Array α) : ∀ i, (∃ j, j ≤ i ∧ pickBy (fun x m => decide (cmpQ (f x) (f m) < 0)) d i = d[j]!) ∧ ∀ j, j ≤ i → f (pickBy (fun x m => decide (cmpQ (f x) (f m) < 0)) d i) ≤ f d[j]!
 | 0 => by
  refine ⟨⟨0, rr, rfl⟩, fun j hj => ?_⟩
  have : j = 0 := by omega
  subst this
  exact Int.le_refl _
 | i + 1 => by
  obtain ⟨⟨j, hj, e⟩, h⟩ := pick_min f d i
  have hcmp : ∀ x y : Int, decide (cmpQ x y < 0) = decide (x < y) := fun x y => by unfold cmpQ; by_cases h1 : x < y <;> by_cases h2 : y < x <;> simp [h1, h2]
  unfold pickBy
  by_cases hb : decide (cmpQ (f d[i + 1]!) (f (pickBy (fun x m => decide (cmpQ (f x) (f m) < 0)) d i)) < 0) = true
  ·rw [if_pos hb]
   rw [hcmp, decide_eq_true_eq] at hb
   refine ⟨⟨i + 1, rr, rfl⟩, fun k hk => ?_⟩
   rcases Nat.lt_or_ge i k with hik | hik
   ·obtain rfl : k = i + 1 := by omega
    exact Int.le_refl _
   ·have := h k hik; omega
  ·rw [if_neg hb]
   rw [hcmp, decide_eq_true_eq] at hb
   refine ⟨⟨j, by omega, e⟩, fun k hk => ?_⟩
   rcases Nat.lt_or_ge i k with hik | hik
   ·obtain rfl : k = i + 1 := by omega
    omega
   ·exact h k hik
theorem keep_srt {α : Type} [Inhabited α] {enc : α → Value} (w : World) (g m : Nat) (d : Array α) (os : Array Obj) : Keep (fun k => k = g) w (sortWorld enc w g 0 m d os) := by
 unfold sortWorld putRow mapBlock Sort.grow Sort.ahead
 refine ⟨rfl, rfl, rfl, by simp, fun k hk hs => ?_⟩
 simp only
 rw [Array.getElem?_append_left (by simpa using hk), Array.getElem?_modify, if_neg (fun e => hs e.symm)]
theorem below_grow (w : World) (m : Nat) (os : Array Obj) : Below w.heap.size w (grow (w.drewN m) os) := by
 refine ⟨rfl, rfl, rfl, by simp [grow], fun k hk => ?_⟩
 unfold grow
 simp only
 rw [Array.getElem?_append_left (by simpa using hk)]; rfl
theorem holds_of {α : Type} [Inhabited α] {enc : α → Value} {w : World} {g : Nat} {d : Array α} {cur : Array Value} {t : TypeId} (hg : w.heap[g]? = some (.cells cur t (0, 0))) (h : ∀ (j : Nat) (x : α), d[j]? = some x → cur[j]? = some (enc x)) : Holds enc w g 0 d := by
 intro j hj
 have hx : d[j]? = some d[j]! := by rw [getElem!_pos d j hj]; exact Array.getElem?_eq_getElem hj
 refine ⟨?_, ?_⟩
 ·simp [World.cell?, hg, h j _ hx]
 ·simp [World.frozen?, hg]
theorem min_c (n : Nat) (D : Nat → Option Nat) (op : List Nat) (g gd bx cap : Nat) (w : World) (cur : Array Value) (hg : w.heap[g]? = some (.cells cur 3 (0, 0))) (hc : ∀ (j x : Nat), op[j]? = some x → cur[j]? = some (.int .i64 (x : Int)))
  (hin : ∀ x ∈ op, x < n) (h0 : 0 < op.length) (hl : op.length ≤ 4000) (hbx : w.heap[bx]? = some (.cells #[.slice (some ⟨gd, 0, none⟩) n n] 42 (0, 0))) (hgd : w.heap[gd]? = some (.cells (rowD n D) 2 (0, 0))) (h1 : bx ≠ g) (h2 : gd ≠ g) :
  Calls Tryz.prog 107 #[.slice (some ⟨g, 0, none⟩) op.length cap, .func (.func 106) #[] #[.pointer (some ⟨bx, 0, none⟩)]] w fun e w' =>
   ∃ x : Nat, e = .returned (.int .i64 (x : Int)) ∧ x ∈ op ∧ (∀ v ∈ op, arrI (D x) ≤ arrI (D v)) ∧ Below w.heap.size w w' := by
 haveI : Inhabited {x : Nat // x < n} := ⟨⟨op[0], hin _ (List.getElem_mem h0)⟩⟩
 obtain ⟨d, hd⟩ : ∃ d : Array {x : Nat // x < n}, d.toList.map (·.1) = op :=
  ⟨(op.attach.map fun p => ⟨p.1, hin p.1 p.2⟩).toArray, by simp only [List.map_map, Function.comp_def]; exact List.attach_map_subtype_val op⟩
 have hds : d.size = op.length := by rw [← hd]; simp
 have hat : ∀ j (x : {x : Nat // x < n}), d[j]? = some x → op[j]? = some x.1 := fun j x hx => by
  rw [← hd, List.getElem?_map, Array.getElem?_toList, hx]; rfl
 have hcon := Any.slices_MinFunc Tryz.minI (fun x : {x : Nat // x < n} => Value.int .i64 (x.1 : Int)) (fun _ => rfl) (fun x y => cmpQ (arrI (D x.1)) (arrI (D y.1))) 106 #[.pointer (some ⟨bx, 0, none⟩)] g 0 cap d w
  (enters_of Tryz.func106 (by kernel_rfl) rfl) (fun m os dk _ x y => ?hcmp) (holds_of hg fun j x hx => hc j _ (hat j x hx)) (lt_of_block hg) (by omega) (by omega)
 case hcmp =>
  have hK := keep_srt (enc := fun x : {x : Nat // x < n} => Value.int .i64 (x.1 : Int)) w g m dk os
  refine (nearer_c n x.1 y.1 bx gd D x.2 y.2 _ ((hK.block bx (lt_of_block hbx) h1).trans hbx) ((hK.block gd (lt_of_block hgd) h2).trans hgd)).mono ?_
  rintro e w' ⟨e1, e2⟩
  exact ⟨e1, 1, #[], by rw [e2, grow_empty]⟩
 rw [hds] at hcon
 refine Calls.mono hcon ?_
 rintro e w' ⟨rfl, m, os, rfl⟩
 obtain ⟨⟨j, hj, hp⟩, hmin⟩ := pick_min (fun x : {x : Nat // x < n} => arrI (D x.1)) d (op.length - 1)
 have hjd : j < d.size := by omega
 refine ⟨_, rfl, ?_, fun v hv => ?_, ?_⟩
 ·rw [hp, ← hd, getElem!_pos d j hjd]
  exact List.mem_map.2 ⟨_, by simp, rfl⟩
 ·rw [← hd] at hv
  obtain ⟨y, hy, rfl⟩ := List.mem_map.1 hv
  obtain ⟨k, hk, rfl⟩ := List.getElem_of_mem hy
  have hk' : k < d.size := by simpa using hk
  have := hmin k (by omega)
  rw [getElem!_pos d k hk'] at this
  simpa using this
 ·have hself : putRow (fun x : {x : Nat // x < n} => Value.int .i64 (x.1 : Int)) (Sort.ahead w m) g 0 d = Sort.ahead w m := putRow_self _ _ _ _ d (holds_ahead _ w m g 0 d (holds_of hg fun j x hx => hc j _ (hat j x hx)))
  unfold sortWorld
  rw [hself]
  exact below_grow w m os
theorem isAt_c (x at_ ba : Nat) (w : World) (hba : w.heap[ba]? = some (.cells #[.int .i64 (at_ : Int)] 3 (0, 0))) :
  Calls Tryz.prog 109 #[.int .i64 (x : Int), .pointer (some ⟨ba, 0, none⟩)] w fun e w' => e = .returned (.bool (decide (x = at_))) ∧ w' = w := by
 have c0 : w.cell? ⟨ba, 0, none⟩ = some (.int .i64 (at_ : Int)) := by simp [World.cell?, hba]
 clear hba
 go_enter Tryz.func109, Tryz.ntmps109
 go_wp2
 go_ret
 refine ⟨?_, rfl⟩
 congr 2
 by_cases h : x = at_
 ·subst h; simp
 ·have h' : ¬ (x : Int) = (at_ : Int) := by omega
  simp [h, h']
def OpRow (w : World) (base g cap : Nat) (op : List Nat) : Prop := w.ownsRow base 3 1 (.slice (some ⟨g, 0, none⟩) op.length cap) op.length (op.map fun (x : Nat) => Value.int .i64 (x : Int))
theorem OpRow.block {w : World} {base g cap : Nat} {op : List Nat} (h : OpRow w base g cap op) : base ≤ g ∧ op.length ≤ cap ∧ cap ≤ maxLen ∧ ∃ cur : Array Value, w.heap[g]? = some (.cells cur 3 (0, 0)) ∧ cur.size = cap ∧ cur.toList.take op.length = op.map (fun (x : Nat) => Value.int .i64 (x : Int)) := by
 rcases h.2 with ⟨hv, _⟩ | ⟨g', cap', cur, hv, hb, hg, hnc, hcm, hcs, ht⟩
 ·cases hv
 ·injection hv with hA _ hc
  injection hA with hA
  injection hA with hA
  subst hA hc
  exact ⟨hb, hnc, hcm, cur, hg, by omega, by rw [Nat.mul_one] at ht; exact ht⟩
theorem OpRow.heap {w w' : World} {base g cap : Nat} {op : List Nat} (h : OpRow w base g cap op) (hg : w'.heap[g]? = w.heap[g]?) : OpRow w' base g cap op := by
 refine ⟨h.1, ?_⟩
 rcases h.2 with hn | ⟨g', cap', cur, hv, h1, hg', rest⟩
 ·exact Or.inl hn
 ·have e : g' = g := by injection hv with hA; injection hA with hA; injection hA with hA; exact hA.symm
  subst e
  exact Or.inr ⟨g', cap', cur, hv, h1, hg.trans hg', rest⟩
theorem OpRow.below {w w' : World} {base g cap : Nat} {op : List Nat} (h : OpRow w base g cap op) (hb : Below w.heap.size w w') : OpRow w' base g cap op := by
 obtain ⟨_, _, _, cur, hg, _⟩ := h.block
 exact h.heap (hb.block g (lt_of_block hg))
theorem take_get {cur : Array Value} {op : List Nat} (h : cur.toList.take op.length = op.map fun (x : Nat) => Value.int .i64 (x : Int)) (j x : Nat) (hx : op[j]? = some x) : cur[j]? = some (.int .i64 (x : Int)) := by
 have hj := (List.getElem?_eq_some_iff.1 hx).1
 have h1 := congrArg (fun l : List Value => l[j]?) h
 simp only [List.getElem?_take, if_pos hj, List.getElem?_map, hx, Option.map_some] at h1
 simpa using h1
theorem del_c (op : List Nat) (at_ base g ba cap : Nat) (w : World) (hO : OpRow w base g cap op) (hba : w.heap[ba]? = some (.cells #[.int .i64 (at_ : Int)] 3 (0, 0))) (h1 : ba ≠ g) :
  Calls Tryz.prog 108 #[.slice (some ⟨g, 0, none⟩) op.length cap, .func (.func 109) #[] #[.pointer (some ⟨ba, 0, none⟩)]] w fun e w' =>
   e = .returned (.slice (some ⟨g, 0, none⟩) (op.filter fun x => !decide (x = at_)).length cap) ∧ OpRow w' base g cap (op.filter fun x => !decide (x = at_)) ∧ Keep (fun k => k = g) w w' := by
 obtain ⟨hb, hnc, hcm, cur, hg, hcs, ht⟩ := hO.block
 have hmx : cap ≤ 9223372036854775807 := hcm
 have hH : Holds (fun x : Nat => Value.int .i64 (x : Int)) w g 0 op.toArray := holds_of hg fun j x hx => take_get ht j x (by simpa using hx)
 have hltb := lt_of_block hba
 have hcon := AnyE.slices_DeleteFunc Tryz.delI (fun x : Nat => Value.int .i64 (x : Int)) (fun _ => rfl) (fun x => decide (x = at_)) 109 #[.pointer (some ⟨ba, 0, none⟩)] (enters_of Tryz.func109 (by kernel_rfl) rfl) 0 Tryz.zeroValue3 g 0 cap op.toArray w
  (fun W x hb' => ?hp) (fun m os dk x _ => ?hpo) hH (by simp; omega) (by simpa using hnc)
 case hp =>
  refine (isAt_c x at_ ba W ((hb'.block ba hltb).trans hba)).mono ?_
  rintro e w' ⟨e1, e2⟩
  exact ⟨e1, 0, e2⟩
 case hpo =>
  have hK := keep_srt (enc := fun x : Nat => Value.int .i64 (x : Int)) w g m dk os
  refine (isAt_c x at_ ba _ ((hK.block ba hltb h1).trans hba)).mono ?_
  rintro e w' ⟨e1, e2⟩
  exact ⟨e1, 0, e2⟩
 rw [show op.toArray.toList = op from rfl, show op.toArray.size = op.length from by simp] at hcon
 refine Calls.mono hcon ?_
 obtain ⟨r, hr⟩ : ∃ r, r = op.filter fun x => !decide (x = at_) := ⟨_, rfl⟩
 rw [← hr]
 have hrl : r.length ≤ op.length := by rw [hr]; exact List.length_filter_le _ _
 rintro e w' ⟨rfl, q, rfl⟩
 have hK : Keep (fun k => k = g) w (putRow (fun x : Nat => Value.int .i64 (x : Int)) (Sort.ahead w q) g 0 (r ++ List.replicate (op.length - r.length) 0).toArray) := by
  have hK := keep_srt (enc := fun x : Nat => Value.int .i64 (x : Int)) w g q (r ++ List.replicate (op.length - r.length) 0).toArray #[]
  unfold sortWorld at hK
  rwa [grow_empty] at hK
 refine ⟨rfl, ?_, hK⟩
 refine ⟨by simp, Or.inr ⟨g, cap, putCells (fun x : Nat => Value.int .i64 (x : Int)) 0 (r ++ List.replicate (op.length - r.length) 0).toArray cur, rfl, hb, ?_, by omega, hcm, by unfold putCells; simp; omega, ?_⟩⟩
 ·have hl := lt_of_block hg
  unfold putRow mapBlock Sort.ahead
  simp only
  rw [Array.getElem?_modify, if_pos rfl, hg]; rfl
 ·rw [Nat.mul_one]
  apply List.ext_getElem?
  intro j
  rw [List.getElem?_take, List.getElem?_map]
  by_cases hj : j < r.length
  ·rw [if_pos hj, List.getElem?_eq_getElem hj]
   have hjc : j < cur.size := by omega
   unfold putCells
   rw [Array.getElem?_toList, Array.getElem?_mapIdx, Array.getElem?_eq_getElem hjc, Option.map_some, if_pos ⟨Nat.zero_le _, by simp; omega⟩, Nat.sub_zero, getElem!_pos _ j (by simp; omega)]
   simp [List.getElem_append_left hj]
  ·rw [if_neg hj, List.getElem?_eq_none (by omega)]; rfl
end Go.Proofs.YtaglfmlgbcmakaaGreatDoor
namespace Go.Proofs.YtaglfmlgbcmakaaGreatDoor
open Go.RowKit
def roadC (r : RoadI) : List Value := [.int .i64 r.1, .int .i64 r.2.1, .int .i64 r.2.2]
theorem roadC_len (r : RoadI) : (roadC r).length = 3 := rfl
def fromRoad (r : RoadN) : RoadI := ((r.1 : Int), (r.2.1 : Int), (r.2.2 : Int))
def IsRoads (w : World) (A : Option Addr) (n c : Nat) (rs : List RoadI) : Prop := Recs roadC 3 w A n c rs
def endC (p : Nat × Nat) : List Value := [.int .i64 (p.1 : Int), .int .i64 (p.2 : Int)]
theorem endC_len (p : Nat × Nat) : (endC p).length = 2 := rfl
def IsEnds (w : World) (A : Option Addr) (n c : Nat) (es : List (Nat × Nat)) : Prop := Recs endC 2 w A n c es
abbrev EndP := Option Addr × Nat × Nat × List (Nat × Nat)
def EndP.val (p : EndP) : Value := .slice p.1 p.2.1 p.2.2.1
def IsStrs (w : World) (A : Option Addr) (n c : Nat) (ss : List ByteArray) : Prop := Cells w A n c 1 (ss.map Value.string)
theorem IsStrs.below {w w' : World} {A : Option Addr} {n c : Nat} {ss : List ByteArray} (h : IsStrs w A n c ss) {B : Nat} (hb : Below B w w') (hB : w.heap.size ≤ B) : IsStrs w' A n c ss := Cells.below h hb hB
theorem IsStrs.len {w : World} {A : Option Addr} {n c : Nat} {ss : List ByteArray} (h : IsStrs w A n c ss) : ss.length = n := by have := h.1; simpa using this
structure MapC (w : World) (b n : Nat) (rs : List RoadN) (An : Option Addr) (cn mb : Nat) (Ar : Option Addr) (cr : Nat) (Aq : Option Addr) (cq : Nat) (vs : List EndP) : Prop where
 blk : w.heap[b]? = some (.cells #[.slice An n cn, .map (some mb), .slice Ar rs.length cr, .slice Aq n cq] 99 (0, 0))
 roads : IsRoads w Ar rs.length cr (rs.map fromRoad)
 near : Cells w Aq n cq 1 (vs.map EndP.val)
 ends : ∀ (v : Nat) (p : EndP), vs[v]? = some p → IsEnds w p.1 p.2.1 p.2.2.1 p.2.2.2 ∧ p.2.2.2.Perm (nearN rs v)
 ok : RoadsOK n rs
 few : n ≤ 128
 fewR : rs.length ≤ 512
def MapAt (w : World) (b n : Nat) (rs : List RoadN) : Prop := ∃ An cn mb Ar cr Aq cq vs, MapC w b n rs An cn mb Ar cr Aq cq vs
section
variable {w w' : World} {b n : Nat} {rs : List RoadN}
theorem MapC.below {An : Option Addr} {cn mb : Nat} {Ar : Option Addr} {cr : Nat} {Aq : Option Addr} {cq : Nat} {vs : List EndP} (h : MapC w b n rs An cn mb Ar cr Aq cq vs) (hb : Below w.heap.size w w') : MapC w' b n rs An cn mb Ar cr Aq cq vs :=
 ⟨(hb.block b (lt_of_block h.blk)).trans h.blk, h.roads.below hb rr, h.near.below hb rr, fun v p hp => ⟨(h.ends v p hp).1.below hb rr, (h.ends v p hp).2⟩, h.ok, h.few, h.fewR⟩
theorem MapAt.below (h : MapAt w b n rs) (hb : Below w.heap.size w w') : MapAt w' b n rs := by
 obtain ⟨An, cn, mb, Ar, cr, Aq, cq, vs, h⟩ := h
 exact ⟨An, cn, mb, Ar, cr, Aq, cq, vs, h.below hb⟩
theorem MapAt.few (h : MapAt w b n rs) : n ≤ 128 := by obtain ⟨An, cn, mb, Ar, cr, Aq, cq, vs, h⟩ := h; exact h.few
theorem MapAt.fewR (h : MapAt w b n rs) : rs.length ≤ 512 := by obtain ⟨An, cn, mb, Ar, cr, Aq, cq, vs, h⟩ := h; exact h.fewR
theorem MapAt.ok (h : MapAt w b n rs) : RoadsOK n rs := by obtain ⟨An, cn, mb, Ar, cr, Aq, cq, vs, h⟩ := h; exact h.ok
theorem MapAt.lt (h : MapAt w b n rs) : b < w.heap.size := by obtain ⟨An, cn, mb, Ar, cr, Aq, cq, vs, h⟩ := h; exact lt_of_block h.blk
theorem MapAt.cells (h : MapAt w b n rs) : ∃ An cn mb Ar cr Aq cq, w.cell? ⟨b, 0, none⟩ = some (.slice An n cn) ∧ w.cell? ⟨b, 1, none⟩ = some (.map (some mb)) ∧ w.cell? ⟨b, 2, none⟩ = some (.slice Ar rs.length cr) ∧ w.cell? ⟨b, 3, none⟩ = some (.slice Aq n cq) := by
 obtain ⟨An, cn, mb, Ar, cr, Aq, cq, vs, h⟩ := h
 exact ⟨An, cn, mb, Ar, cr, Aq, cq, cell_at_heap h.blk rfl, cell_at_heap h.blk rfl, cell_at_heap h.blk rfl, cell_at_heap h.blk rfl⟩
theorem MapAt.nearAt (h : MapAt w b n rs) {v : Nat} (hv : v < n) : ∃ qb qo cq A m c es, w.cell? ⟨b, 3, none⟩ = some (.slice (some ⟨qb, qo, none⟩) n cq) ∧ qb < w.heap.size ∧ w.cell? ⟨qb, qo + v, none⟩ = some (.slice A m c) ∧ IsEnds w A m c es ∧ es.Perm (nearN rs v) := by
 obtain ⟨An, cn, mb, Ar, cr, Aq, cq, vs, h⟩ := h
 obtain ⟨qb, qo, rfl, hlt, hc⟩ := h.near.2.2.2.2 (by omega)
 have hl : vs.length = n := by have := h.near.1; simpa using this
 have hvp : vs[v]? = some (vs[v]'(by omega)) := List.getElem?_eq_getElem _
 obtain ⟨h1, h2⟩ := h.ends v _ hvp
 exact ⟨qb, qo, cq, _, _, _, _, cell_at_heap h.blk rfl, hlt, hc v _ (by rw [List.getElem?_map, hvp]; rfl), h1, h2⟩
end
theorem IsEnds.len {w : World} {A : Option Addr} {n c : Nat} {es : List (Nat × Nat)} (h : IsEnds w A n c es) : es.length = n := h.2
theorem IsEnds.max {w : World} {A : Option Addr} {n c : Nat} {es : List (Nat × Nat)} (h : IsEnds w A n c es) : n ≤ c ∧ c ≤ 9223372036854775807 := by have h1 := h.1.2.1; have h2 := h.1.2.2.1; unfold maxLen at h2; omega
theorem IsEnds.at_ {w : World} {A : Option Addr} {n c : Nat} {es : List (Nat × Nat)} (h : IsEnds w A n c es) {k : Nat} (hk : k < n) :
  ∃ b off x l, A = some ⟨b, off, none⟩ ∧ b < w.heap.size ∧ es[k]? = some (x, l) ∧ w.cell? ⟨b, off + k * 2, none⟩ = some (.int .i64 (x : Int)) ∧ w.cell? ⟨b, off + k * 2 + 1, none⟩ = some (.int .i64 (l : Int)) := by
 have hx : es[k]? = some (es[k]'(by rw [h.2]; exact hk)) := List.getElem?_eq_getElem _
 obtain ⟨b, off, hA, hb, hc⟩ := Recs.at_ h endC_len (by decide) hx
 simp only [Nat.add_assoc] at hc ⊢
 exact ⟨b, off, _, _, hA, hb, hx, hc 0 _ rfl, hc 1 _ rfl⟩
end Go.Proofs.YtaglfmlgbcmakaaGreatDoor
namespace Go.Proofs.YtaglfmlgbcmakaaGreatDoor
open Go.RowKit Go.Shelf
structure FrD (w : World) (bx gd n : Nat) (f : Nat → Int) (wr : World) : Prop where
 hx : wr.heap[bx]? = some (.cells #[.slice (some ⟨gd, 0, none⟩) n n] 42 (0, 0))
 hd : wr.heap[gd]? = some (.cells (rowI n f) 2 (0, 0))
 hb : Below w.heap.size w wr
theorem FrD.cx {w : World} {bx gd n : Nat} {f : Nat → Int} {wr : World} (h : FrD w bx gd n f wr) : wr.cell? ⟨bx, 0, none⟩ = some (.slice (some ⟨gd, 0, none⟩) n n) := cell_at_heap h.hx rfl
theorem FrD.cd {w : World} {bx gd n : Nat} {f : Nat → Int} {wr : World} (h : FrD w bx gd n f wr) {v : Nat} (hv : v < n) : wr.cell? ⟨gd, v, none⟩ = some (.int .i64 (f v)) := rowI_cell h.hd hv
theorem FrD.fz {w : World} {bx gd n : Nat} {f : Nat → Int} {wr : World} (h : FrD w bx gd n f wr) (v : Nat) : wr.frozen? ⟨gd, v, none⟩ = false := by simp [World.frozen?, h.hd]
theorem FrD.set {w : World} {bx gd n : Nat} {f g : Nat → Int} {wr : World} (h : FrD w bx gd n f wr) (hlt : w.heap.size ≤ gd) (hne : bx ≠ gd) {k : Nat} {x : Int} (hk : g k = x) (hg : ∀ v, v < n → v ≠ k → g v = f v) : FrD w bx gd n g (wr.setCell ⟨gd, k, none⟩ (.int .i64 x)) where
 hx := (Below.heap_setCell _ _ _ _ hne).trans h.hx
 hd := by rw [heap_setCell_same h.hd, rowI_set hk hg]
 hb := h.hb.setCell (p := ⟨gd, k, none⟩) hlt _
theorem FrD.keep {w : World} {bx gd n : Nat} {f : Nat → Int} {wr wr' : World} {S : Nat → Prop} (h : FrD w bx gd n f wr) (hK : Keep S wr wr') (hS : ∀ k, S k → w.heap.size ≤ k ∧ k ≠ bx ∧ k ≠ gd) : FrD w bx gd n f wr' where
 hx := (hK.block bx (lt_of_block h.hx) fun e => (hS _ e).2.1 rfl).trans h.hx
 hd := (hK.block gd (lt_of_block h.hd) fun e => (hS _ e).2.2 rfl).trans h.hd
 hb := h.hb.trans (hK.to_below (fun k e => (hS k e).1) h.hb.size)
theorem FrD.below {w : World} {bx gd n : Nat} {f : Nat → Int} {wr wr' : World} (h : FrD w bx gd n f wr) (hb : Below wr.heap.size wr wr') : FrD w bx gd n f wr' where
 hx := (hb.block bx (lt_of_block h.hx)).trans h.hx
 hd := (hb.block gd (lt_of_block h.hd)).trans h.hd
 hb := h.hb.trans (hb.mono h.hb.size)
theorem FrD.alloc {w : World} {bx gd n : Nat} {f : Nat → Int} {wr : World} (h : FrD w bx gd n f wr) (o : Obj) : FrD w bx gd n f (wr.alloc o) where
 hx := (Below.heap_alloc _ _ _ (lt_of_block h.hx)).trans h.hx
 hd := (Below.heap_alloc _ _ _ (lt_of_block h.hd)).trans h.hd
 hb := h.hb.alloc h.hb.size _
theorem FrD.eqf {w : World} {bx gd n : Nat} {f g : Nat → Int} {wr : World} (h : FrD w bx gd n f wr) (hg : ∀ v, v < n → g v = f v) : FrD w bx gd n g wr where
 hx := h.hx
 hd := by
  rw [h.hd, show rowI n f = rowI n g from ?_]
  unfold rowI
  congr 1
  exact List.map_congr_left fun v hv => by rw [hg v (List.mem_range.1 hv)]
 hb := h.hb
theorem from_c (b n : Nat) (rs : List RoadN) (a : Nat) (w : World) (hm : MapAt w b n rs) (ha : a < n) :
  Calls Tryz.prog 64 #[.pointer (some ⟨b, 0, none⟩), .int .i64 (a : Int)] w fun e w' => ∃ g, e = .returned (.slice (some ⟨g, 0, none⟩) n n) ∧ w'.heap[g]? = some (.cells (rowD n (distN n rs a)) 2 (0, 0)) ∧ Below w.heap.size w w' := by
 obtain ⟨An, cn, mb, Ar, cr, Aq, cq, c0, c1, c2, c3⟩ := hm.cells
 have hn128 := hm.few
 have HM := hI hm
 clear hm c1 c2
 go_enter Tryz.func64, Tryz.ntmps64
 go_wp2_with fail
 refine (mlen_c b An n cn w c0).mono ?_
 rintro e w1 ⟨rfl, hb1⟩
 have HB1 := hI hb1
 clear hb1
 have hmk := fun w => run_make_row' (P := Tryz.prog) 42 2 (.int .i64 0) 8 Tryz.underlying42 i64_info rfl .i64 .i64 n (by omega) (by omega) w
 have hnm : n ≤ maxLen := by unfold maxLen; omega
 go_wp2
 clear hmk
 rw [made_rowI]
 have hs1 := HB1.out.size
 have HF0 : Hid (FrD w (w1.heap.size + 1) w1.heap.size n (fun _ => 0) ((w1.alloc (.cells (rowI n fun _ => 0) 2)).alloc (.cells #[.slice (some ⟨w1.heap.size, 0, none⟩) n n] 42))) :=
  ⟨heap_new_at (by simp), (heap_old_at (by simp)).trans (heap_new_at rfl), (HB1.out.alloc hs1 _).alloc (by simp; omega) _⟩
 obtain ⟨bx, hbx⟩ : ∃ bx, bx = w1.heap.size + 1 := ⟨_, rfl⟩
 rw [← hbx] at HF0 ⊢
 obtain ⟨gd, hgd⟩ : ∃ gd, gd = w1.heap.size := ⟨_, rfl⟩
 rw [← hgd] at HF0 ⊢
 have hdl : w.heap.size ≤ gd := by omega
 have hxl : gd < bx := by omega
 generalize (w1.alloc (.cells (rowI n fun _ => 0) 2)).alloc (.cells #[.slice (some ⟨gd, 0, none⟩) n n] 42) = W2 at *
 clear hgd hbx hs1
 go_loopw [6, 18] (fun _ i wr => ∃ k : Nat, k ≤ n ∧ i = .int .i64 (k : Int) ∧ Hid (FrD w bx gd n (fun v => if v < k then -1 else 0) wr)) (fun _ i _ => n - (intOf i).toNat)
 case atStart => exact ⟨0, Nat.zero_le _, rfl, HF0.out.eqf fun v _ => by simp⟩
 case round =>
  obtain ⟨k, hk, rfl, HF⟩ := hrel
  by_cases hlt : k < n
  ·have hkn : (k : Int) < (n : Int) := by omega
   have cx := HF.out.cx
   have cd := HF.out.cd hlt
   have fz := HF.out.fz k
   go_wp2
   go_roundw
   case rel =>
    refine ⟨k + 1, by omega, by simp, HF.out.set hdl (by omega) (g := fun v => if v < k + 1 then -1 else 0) (by simp) fun v _ hv => ?_⟩
    by_cases e : v < k
    ·simp [e, Nat.lt_succ_of_lt e]
    ·have : ¬ v < k + 1 := by omega
     simp [e, this]
   case measure => simp [intOf]; omega
  ·obtain rfl : k = n := by omega
   clear HF0
   have cx := HF.out.cx
   have cd := HF.out.cd ha
   have fz := HF.out.fz a
   have han : (a : Int) < (k : Int) := by omega
   go_wp2
   have HF1 : Hid (FrD w bx gd k (fun v => arrI (if v = a then some 0 else none)) (wr.setCell ⟨gd, a, none⟩ (.int .i64 0))) :=
    HF.out.set hdl (by omega) (by simp [arrI]) fun v hv hne => by simp [hne, arrI, hv]
   have hz : (wr.setCell ⟨gd, a, none⟩ (.int .i64 0)).heap.size = wr.heap.size := by simp
   rw [← hz]
   generalize wr.setCell ⟨gd, a, none⟩ (.int .i64 0) = W3 at *
   clear cx cd fz HF han hz
   obtain ⟨B0, hB0⟩ : ∃ B0, B0 = W3.heap.size := ⟨_, rfl⟩
   have hxb : bx < B0 := by rw [hB0]; exact lt_of_block HF1.out.hx
   have HO1 : Hid (OpRow (W3.alloc (.cells #[.int .i64 (a : Int)] 3)) B0 B0 1 [a]) :=
    ⟨by simp, Or.inr ⟨B0, 1, #[.int .i64 (a : Int)], rfl, rr, heap_new_at hB0, by simp, by simp [maxLen], by simp, by simp⟩⟩
   have HF2 := hI (HF1.out.alloc (.cells #[.int .i64 (a : Int)] 3))
   have HN := hI (dist_is HM.out.ok a)
   rw [← hB0]
   generalize W3.alloc (.cells #[.int .i64 (a : Int)] 3) = W4 at *
   clear hB0 HF1
   go_loopg [7] (2 * k - 1) (fun kx s7 wr => ∃ (D : Nat → Option Nat) (op : List Nat) (go co : Nat), s7 = .slice (some ⟨go, 0, none⟩) op.length co ∧ kx ≤ 2 * k ∧ Hid (Dij (wtN rs) a D op) ∧ Hid (DB k kx D op) ∧ Hid (FrD w bx gd k (fun v => arrI (D v)) wr) ∧ Hid (OpRow wr B0 go co op))
   case atStart => exact ⟨_, [a], B0, 1, rfl, Nat.sub_le _ _, Dij.begin _ _, DB.begin ha, HF2.out, HO1.out⟩
   case round =>
    obtain ⟨D, op, go, co, rfl, hkx, HDJ, HDB, HFD, HOP⟩ := hrel
    clear HF2 HO1
    by_cases hop : op.length = 0
    ·have hop' : op = [] := List.eq_nil_of_length_eq_zero hop
     subst hop'
     have cx := HFD.out.cx
     go_wp2
     go_ret
     exact ⟨gd, rfl, by rw [HFD.out.hd]; rw [show (fun v => arrI (D v)) = fun v => arrI (distN k rs a v) from funext fun v => congrArg arrI (dist_unique (HDJ.out.done v) (HN.out v))], HFD.out.hb⟩
    ·have hpos : (0 : Int) < (op.length : Int) := by omega
     obtain ⟨hbo, hoc, hcm, cur, hg, hcs, htk⟩ := HOP.out.block
     have hol : op.length ≤ 4000 := by have := HDB.out.me; omega
     have HMC : Hid (MapAt wr b k rs) := HM.out.below HFD.out.hb
     go_wp2_with fail
     refine (min_c k D op go gd bx co _ cur hg (take_get htk) HDB.out.inn (by omega) hol HFD.out.hx HFD.out.hd (by omega) (by omega)).mono ?_
     rintro e w5 ⟨at_, rfl, hat, hmin, hb5⟩
     have HAT := hI hat; have HMN := hI hmin
     have hs5 := hb5.size
     have HF5 := hI (HFD.out.below hb5)
     have HO5 := hI (HOP.out.below hb5)
     have HM5 := hI (HMC.out.below hb5)
     clear hb5 hat hmin hg htk hcs hbo hoc hcm HMC HFD HOP
     go_wp2_with fail
     have hka : (w5.alloc (.cells #[.int .i64 (at_ : Int)] 3)).heap[w5.heap.size]? = some (.cells #[.int .i64 (at_ : Int)] 3 (0, 0)) := hpt
     have hgo5 : go < w5.heap.size := by obtain ⟨_, _, _, cur, hg, _⟩ := HO5.out.block; exact lt_of_block hg
     have hbx5 : bx < w5.heap.size := lt_of_block HF5.out.hx
     have HF6 := hI (HF5.out.alloc (.cells #[.int .i64 (at_ : Int)] 3))
     have HO6 := hI (HO5.out.below ((Below.refl _ w5).alloc rr (.cells #[.int .i64 (at_ : Int)] 3)))
     have HM6 := hI (HM5.out.below ((Below.refl _ w5).alloc rr (.cells #[.int .i64 (at_ : Int)] 3)))
     obtain ⟨ba, hba⟩ : ∃ ba, ba = w5.heap.size := ⟨_, rfl⟩
     rw [← hba] at hka hgo5 hbx5 ⊢
     have HKA := hI hka
     generalize w5.alloc (.cells #[.int .i64 (at_ : Int)] 3) = w6 at *
     clear hba hka HF5 HO5 HM5 hs5
     refine (del_c op at_ B0 go ba co w6 HO6.out HKA.out (by omega)).mono ?_
     rintro e w7 ⟨rfl, ho7, hk7⟩
     have hbo : B0 ≤ go := ho7.block.1
     have HO7 := hI ho7
     have HKA7 := hI ((hk7.block ba (lt_of_block HKA.out) (by omega)).trans HKA.out)
     have HF7 := hI (HF6.out.keep hk7 fun z e => by subst e; exact ⟨by omega, by omega, by omega⟩)
     have HM7 := hI (HM.out.below HF7.out.hb)
     clear ho7 hk7 HO6 HKA HF6 HM6
     obtain ⟨dAt, hdAt⟩ := HDJ.out.open_ at_ HAT.out
     obtain ⟨m, rfl⟩ : ∃ m, gk = m + 1 := ⟨gk - 1, by have := HDB.out.pos HAT.out; omega⟩
     obtain ⟨hdb, hbd⟩ := HDB.out.del HAT.out hdAt
     have hrl := Rlx.begin HDJ.out HAT.out hdAt (fun v hv dv hdv => by
      have := HMN.out v hv
      rw [hdAt, hdv] at this
      simp only [arrI] at this; omega)
     have hatk := HDB.out.inn at_ HAT.out
     obtain ⟨r, hr⟩ : ∃ r, r = op.filter fun x => !decide (x = at_) := ⟨_, rfl⟩
     rw [← hr] at HO7 hdb hrl ⊢
     have HRL := hI hrl; have HDB7 := hI hdb; have HBD := hI hbd; have HDA := hI hdAt
     clear hrl hdb hbd hdAt hr HDJ HDB HMN HAT
     obtain ⟨qb, qo, cq', A, me, ce, es, c3w, hqb, cqw, hes, hper⟩ := HM.out.nearAt hatk
     have c3' := (HF7.out.hb.cell (p := ⟨b, 3, none⟩) HM.out.lt).trans c3w
     have cqa := (HF7.out.hb.cell (p := ⟨qb, qo + at_, none⟩) hqb).trans cqw
     clear c3w cqw
     have HES := hI hes; have HPE := hI hper
     clear hes hper
     have ca := cell_at_heap (j := 0) HKA7.out rfl
     have hatk' : (at_ : Int) < (k : Int) := by omega
     go_upto_region 13 with fail
     go_cut [46, 47, 48] from 40 to 48 (fun s46 s47 s48 wx => s46 = .slice A me ce ∧ s47 = .int .i64 (me : Int) ∧ s48 = .int .i64 0 ∧ wx = w7.drew)
     case first =>
      refine plain_region (fun W' => W'.cell? ⟨b, 3, none⟩ = some (.slice (some ⟨qb, qo, none⟩) k cq') ∧ W'.cell? ⟨ba, 0, none⟩ = some (.int .i64 (at_ : Int)) ∧ W'.cell? ⟨qb, qo + at_, none⟩ = some (.slice A me ce)) (by kernel_rfl) ⟨c3', ca, cqa⟩ (fun hHeld => ?_)
      (refine' anyT_tk 0 rfl ?_; (try simp only [Act.put, nY, nX])); (refine' anyT_tk 1 rfl ?_; (try simp only [Act.put, nY, nX])); (refine' anyT_tk 2 rfl ?_; (try simp only [Act.put, nY, nX])); (refine' anyT_tk 3 rfl ?_; (try simp only [Act.put, nY, nX])); (refine' anyT_tk 4 rfl ?_; (try simp only [Act.put, nY, nX])); (refine' anyT_tk 5 rfl ?_; (try simp only [Act.put, nY, nX])); (refine' anyT_tk 6 rfl ?_; (try simp only [Act.put, nY, nX]))
      refine anyT_two (i := 7) (j := 8) (by kernel_rfl) rfl rfl (fun K' hK' => ?_) (fun K' hK' => ?_)
      all_goals rw [if_pos (by rfl)]
      all_goals go_simp
      ·refine hK' _ _ ⟨.inr hHeld, fun _ => ?_⟩
       clear hK' K'
       (try simp only [Act.put, nY, nX])
       (refine anyT_sp 8 rfl (fun K' hK' => ?_); simp only [nY]; go_simp)
       refine hK' _ _ ⟨.inl (by kernel_rfl), fun _ => anyT_done (by kernel_rfl) ?_ _⟩
       clear hK' K' hHeld
       go_wp2_with fail
       go_meet
       case rel => exact ⟨rfl, rfl, rfl, rfl⟩
      ·refine hK' _ _ ⟨.inr hHeld, fun _ => ?_⟩
       clear hK' K'
       (try simp only [Act.put, nY, nX])
       (refine anyT_sp 7 rfl (fun K' hK' => ?_); simp only [nY]; go_simp)
       refine hK' _ _ ⟨.inl (by kernel_rfl), fun _ => anyT_done (by kernel_rfl) ?_ _⟩
       clear hK' K' hHeld
       go_wp2_with fail
       go_meet
       case rel => exact ⟨rfl, rfl, rfl, rfl⟩
     case rest =>
     obtain ⟨rfl, rfl, rfl, hwc⟩ := hcut
     obtain rfl := hwc
     go_wp2_with fail
     have hmm := IsEnds.max HES.out
     have HF8 := hI (HF7.out.below ((Below.refl w7.heap.size w7).drew))
     have HO8 := hI (HO7.out.below ((Below.refl w7.heap.size w7).drew))
     have HK8 : Hid (w7.drew.heap[ba]? = some (.cells #[.int .i64 (at_ : Int)] 3 (0, 0))) := HKA7.out
     have hs7 : w7.drew.heap.size = w7.heap.size := rfl
     have hba7 : ba < w7.drew.heap.size := lt_of_block HKA7.out
     have hgb8 : bx < w7.drew.heap.size := lt_of_block HF8.out.hx
     generalize w7.drew = w8 at *
     clear HF7 HO7 HKA7 HM7 c3' cqa ca hs7 hqb
     go_loopw [7, 48] (fun s7 i wr => ∃ (j : Nat) (D : Nat → Option Nat) (op : List Nat) (go co : Nat), i = .int .i64 (j : Int) ∧ j ≤ me ∧ go ≠ ba ∧ s7 = .slice (some ⟨go, 0, none⟩) op.length co ∧ Hid (Rlx (wtN rs) a at_ dAt (es.take j) D op) ∧ Hid (DB k m D op) ∧ Hid (FrD w bx gd k (fun v => arrI (D v)) wr) ∧ Hid (OpRow wr B0 go co op) ∧
      Hid (wr.heap[ba]? = some (.cells #[.int .i64 (at_ : Int)] 3 (0, 0)))) (fun _ i _ => me - (intOf i).toNat)
     case atStart => exact ⟨0, D, r, go, co, rfl, Nat.zero_le _, by omega, rfl, HRL.out, HDB7.out, HF8.out, HO8.out, HK8.out⟩
     case round =>
      obtain ⟨j, D', op', go', co', rfl, hj, hgb, rfl, HRX, HDX, HFX, HOX, HKX⟩ := hrel
      clear HF8 HO8 HK8
      by_cases hlt : j < me
      ·have hjm : (j : Int) < (me : Int) := by omega
       obtain ⟨eb, eo, x, l, hA, heb, hxl, ex, el⟩ := IsEnds.at_ (HES.out.below HFX.out.hb rr) hlt
       subst hA
       have hmem : (x, l) ∈ nearN rs at_ := HPE.out.mem_iff.1 (List.mem_of_getElem? hxl)
       have hw := (near_wt HM.out.ok).1 hmem
       obtain ⟨_, hxk⟩ := wt_lt HM.out.ok _ _ _ hw
       have hl30 := wt_len HM.out.ok hw
       have HXL := hI hxl; have HWT := hI hw
       clear hmem hw hxl
       have hbw : Below wr.heap.size wr (wr.alloc (.cells #[.int .i64 (x : Int), .int .i64 (l : Int)] 112)) := bel
       have hxb := (heap_new_at rfl : (wr.alloc (.cells #[.int .i64 (x : Int), .int .i64 (l : Int)] 112)).heap[wr.heap.size]? = _)
       have HF9 := hI (HFX.out.below hbw)
       have HO9 := hI (HOX.out.below hbw)
       have HK9 := hI ((hbw.block ba (lt_of_block HKX.out)).trans HKX.out)
       have hbxw : bx < wr.heap.size := lt_of_block HFX.out.hx
       have hbaw : ba < wr.heap.size := lt_of_block HKX.out
       go_wp2_with fail
       obtain ⟨xb, hxbe⟩ : ∃ xb, xb = wr.heap.size := ⟨_, rfl⟩
       rw [← hxbe] at hxb hbxw hbaw ⊢
       have HXB := hI hxb
       generalize wr.alloc (.cells #[.int .i64 (x : Int), .int .i64 (l : Int)] 112) = w9 at *
       clear hxbe hbw hxb ex el heb HFX HOX HKX
       have cbx := HF9.out.cx
       have cba := cell_at_heap (j := 0) HK9.out rfl
       have cda : w9.cell? ⟨gd, at_, none⟩ = some (.int .i64 (dAt : Int)) := by have := HF9.out.cd hatk; rw [HRX.out.atv] at this; exact this
       have cxl := cell_at_heap (j := 1) HXB.out rfl
       have hwr : IntKind.i64.wrap ((dAt : Int) + (l : Int)) = ((dAt + l : Nat) : Int) := by
        have h1 := HBD.out
        rw [IntWalk.i64_in _ (by omega)]; omega
       refine plain_region (fun W' => W'.cell? ⟨bx, 0, none⟩ = some (.slice (some ⟨gd, 0, none⟩) k k) ∧ W'.cell? ⟨ba, 0, none⟩ = some (.int .i64 (at_ : Int)) ∧ W'.cell? ⟨gd, at_, none⟩ = some (.int .i64 (dAt : Int)) ∧ W'.cell? ⟨xb, 1, none⟩ = some (.int .i64 (l : Int))) (by kernel_rfl) ⟨cbx, cba, cda, cxl⟩ (fun hHeld => ?_)
       (refine' anyT_tk 0 rfl ?_; (try simp only [Act.put, nY, nX])); (refine' anyT_tk 1 rfl ?_; (try simp only [Act.put, nY, nX])); (refine' anyT_tk 2 rfl ?_; (try simp only [Act.put, nY, nX])); (refine' anyT_tk 3 rfl ?_; (try simp only [Act.put, nY, nX])); (refine' anyT_tk 4 rfl ?_; (try simp only [Act.put, nY, nX])); (refine' anyT_tk 5 rfl ?_; (try simp only [Act.put, nY, nX])); (refine' anyT_tk 6 rfl ?_; (try simp only [Act.put, nY, nX]))
       (refine anyT_sp 7 rfl (fun K' hK' => ?_); simp only [nY]; go_simp)
       rw [show (dAt : Int) + (l : Int) = ((dAt + l : Nat) : Int) from by omega]
       refine hK' _ _ ⟨.inl (by kernel_rfl), fun _ => anyT_done (by kernel_rfl) ?_ _⟩
       clear hK' K' hHeld hwr cda cba cxl cbx
       have hbd9 : Below w9.heap.size w9 w9.drew := (Below.refl _ _).drew
       have HFa := hI (HF9.out.below hbd9)
       have HOa := hI (HO9.out.below hbd9)
       have HKa : Hid (w9.drew.heap[ba]? = some (.cells #[.int .i64 (at_ : Int)] 3 (0, 0))) := HK9.out
       have HXa : Hid (w9.drew.heap[xb]? = some (.cells #[.int .i64 (x : Int), .int .i64 (l : Int)] 112 (0, 0))) := HXB.out
       clear HF9 HO9 HK9 HXB hbd9
       generalize w9.drew = wa at *
       have cbx := HFa.out.cx
       have cxx := cell_at_heap (j := 0) HXa.out rfl
       have cdx := HFa.out.cd hxk
       have fzx := HFa.out.fz x
       have hst := HRX.out.step HWT.out
       have hdx := HDX.out.relax HBD.out hxk hl30
       have hxk' : (x : Int) < (k : Int) := by omega
       have hme64 := hmm.2
       have HTK : Hid (es.take (j + 1) = es.take j ++ [(x, l)]) := take_snoc' es j (x, l) HXL.out
       unfold relax1 at hst hdx
       dsimp only at hst hdx
       cases hD : D' x with
       | none =>
        rw [hD] at hst hdx cdx
        dsimp only at hst hdx
        have HST := hI hst; have HDA' := hI hdx
        have hol' : op'.length + 1 ≤ 4096 := by have := hdx.me; rw [List.length_append] at this; simp at this; omega
        clear hst hdx hD
        simp only [arrI] at cdx
        have hOw := HOa.out.below ((Below.refl _ wa).alloc rr (.cells #[.int .i64 (x : Int)] 3))
        have HOW := hI hOw
        have hBa : B0 ≤ (wa.alloc (.cells #[.int .i64 (x : Int)] 3)).heap.size := by
         have h1 := hOw.block.1
         obtain ⟨_, _, _, cur, hg, _⟩ := hOw.block
         have := lt_of_block hg
         omega
        have hxbw : xb < wa.heap.size := lt_of_block HXa.out
        clear hOw
        go_wp2_with (at_builtin; refine append_int rfl (.tmp 66) (.tmp 69) rfl B0 (.slice (some ⟨go', 0, none⟩) op'.length co') op'.length (op'.map fun (x : Nat) => Value.int .i64 (x : Int)) rfl HOW.out ⟨wa.heap.size, 0, none⟩ 1 (.int .i64 (x : Int)) rfl (cell_one_new _ _ _) rfl hol' hBa ?hc)
        case hc =>
         intro v' wb hown hg hat
         obtain ⟨g8, c8, rfl, h8, _⟩ := own_block hown (by omega)
         have hKb : Keep (fun z => z = go') (wa.alloc (.cells #[.int .i64 (x : Int)] 3)) wb := (Keep.refl _ _).grown hg (fun z e => .inl (by injection e with e; exact e.symm))
         have hbo' : B0 ≤ go' := HOW.out.block.1
         have HO8' : Hid (OpRow wb B0 g8 c8 (op' ++ [x])) := by
          show wb.ownsRow _ _ _ _ _ _
          rw [List.map_append, List.length_append]; exact hown
         have hal : Below wa.heap.size wa (wa.alloc (.cells #[.int .i64 (x : Int)] 3)) := bel
         have HFb := hI ((HFa.out.below hal).keep hKb fun z e => by subst e; exact ⟨by omega, by omega, by omega⟩)
         have HKb := hI ((hKb.block ba (by simp; omega) (Ne.symm hgb)).trans ((hal.block ba (by omega)).trans HKa.out))
         have HXb := hI ((hKb.block xb (by simp; omega) (by
          obtain ⟨_, _, _, cur, hgg, _⟩ := HOa.out.block
          intro e
          rw [← e, HXa.out] at hgg
          cases hgg)).trans ((hal.block xb hxbw).trans HXa.out))
         have hg8 : g8 ≠ ba := by
          rcases hat with h | h
          ·have : g8 = go' := by injection h
           omega
          ·have : g8 = wa.heap.size + 1 := by injection h
           omega
         clear hown hg hat hKb hal
         have ccx := HFb.out.cx
         have ccd := HFb.out.cd hxk
         have ccf := HFb.out.fz x
         have ccx0 := cell_at_heap (j := 0) HXb.out rfl
         have hbg : ba ≠ gd := fun e => by omega
         have hFs := hI (HFb.out.set hdl (by omega) (g := fun v => arrI (updD D' x (dAt + l) v)) (x := ((dAt + l : Nat) : Int)) (by show arrI (updD D' x (dAt + l) x) = _; rw [updD_self]; rfl) fun v _ hv => by show arrI (updD D' x (dAt + l) v) = _; rw [updD_ne _ _ hv])
         have hOs := hI (HO8'.out.heap (w' := wb.setCell ⟨gd, x, none⟩ (.int .i64 ((dAt + l : Nat) : Int))) (Below.heap_setCell _ _ _ _ (by show g8 ≠ gd; omega)))
         have hKs := hI ((Below.heap_setCell wb ⟨gd, x, none⟩ (.int .i64 ((dAt + l : Nat) : Int)) ba hbg).trans HKb.out)
         clear HKb HO8' HFb
         go_wp2_with fail
         go_roundw
         case rel => exact ⟨j + 1, _, _, g8, c8, by first | rfl | (simp; done), by omega, hg8, by first | rfl | (simp; done), by rw [HTK.out]; exact HST.out, HDA'.out, by first | exact hFs.out | simpa using hFs.out, by first | exact hOs.out | simpa using hOs.out, by first | exact hKs.out | simpa using hKs.out⟩
         case measure => simp [intOf]; omega
       | some dx =>
        rw [hD] at hst hdx cdx
        dsimp only at hst hdx
        simp only [arrI] at cdx
        by_cases hle : dx ≤ dAt + l
        ·rw [if_pos hle] at hst hdx
         have HST := hI hst; have HDA' := hI hdx
         clear hst hdx hD
         have hle' : (dx : Int) ≤ (dAt : Int) + (l : Int) := by omega
         have hlt0 : ¬ (dx : Int) < 0 := by omega
         go_wp2_with fail
         go_roundw
         case rel => exact ⟨j + 1, _, _, go', co', by first | rfl | (simp; done), by omega, hgb, by first | rfl | (simp; done), by rw [HTK.out]; exact HST.out, HDA'.out, HFa.out, HOa.out, HKa.out⟩
         case measure => simp [intOf]; omega
        ·rw [if_neg hle] at hst hdx
         have HST := hI hst; have HDA' := hI hdx
         clear hst hdx hD
         have hle' : ¬ (dx : Int) ≤ (dAt : Int) + (l : Int) := by omega
         have hlt0 : ¬ (dx : Int) < 0 := by omega
         have hbg : ba ≠ gd := fun e => by omega
         have hgg : go' ≠ gd := by have := HOa.out.block.1; omega
         have hFs := hI (HFa.out.set hdl (by omega) (g := fun v => arrI (updD D' x (dAt + l) v)) (x := ((dAt + l : Nat) : Int)) (by show arrI (updD D' x (dAt + l) x) = _; rw [updD_self]; rfl) fun v _ hv => by show arrI (updD D' x (dAt + l) v) = _; rw [updD_ne _ _ hv])
         have hOs := hI (HOa.out.heap (w' := wa.setCell ⟨gd, x, none⟩ (.int .i64 ((dAt + l : Nat) : Int))) (Below.heap_setCell _ _ _ _ hgg))
         have hKs := hI ((Below.heap_setCell wa ⟨gd, x, none⟩ (.int .i64 ((dAt + l : Nat) : Int)) ba hbg).trans HKa.out)
         go_wp2_with fail
         go_roundw
         case rel => exact ⟨j + 1, _, _, go', co', by first | rfl | (simp; done), by omega, hgb, by first | rfl | (simp; done), by rw [HTK.out]; exact HST.out, HDA'.out, by first | exact hFs.out | simpa using hFs.out, by first | exact hOs.out | simpa using hOs.out, by first | exact hKs.out | simpa using hKs.out⟩
         case measure => simp [intOf]; omega
      ·obtain rfl : j = me := by omega
       go_wp2_with fail
       have hfin : Dij (wtN rs) a D' op' := HRX.out.done_ fun v l hv => by
        have h1 := HPE.out.mem_iff.2 ((near_wt HM.out.ok).2 hv)
        rw [List.take_of_length_le (by rw [IsEnds.len HES.out]; exact rr)]
        exact h1
       go_roundg m
       case measure => omega
       case rel => exact ⟨D', op', go', co', by first | rfl | (simp; done), by omega, hfin, HDX.out, HFX.out, HOX.out⟩
def distI (n : Nat) (rs : List RoadN) (x y : Int) : Option Nat := if (0 ≤ x ∧ x < n) ∧ 0 ≤ y ∧ y < n then distN n rs x.toNat y.toNat else none
theorem dist_c (b n : Nat) (rs : List RoadN) (x y : Int) (w : World) (hm : MapAt w b n rs) :
  Calls Tryz.prog 21 #[.pointer (some ⟨b, 0, none⟩), .int .i64 x, .int .i64 y] w fun e w' => e = .returned (.tuple #[.int .i64 (((distI n rs x y).getD 0 : Nat) : Int), .bool (distI n rs x y).isSome]) ∧ Below w.heap.size w w' := by
 obtain ⟨An, cn, mb, Ar, cr, Aq, cq, c0, c1, c2, c3⟩ := hm.cells
 have HM := hI hm
 have hbl := hm.lt
 clear hm c1 c2 c3
 have HC0 := hI c0
 clear c0
 go_enter Tryz.func21, Tryz.ntmps21
 go_wp2_with fail
 refine (mhas_c b An n cn x w HC0.out).mono ?_
 rintro e w1 ⟨rfl, hb1⟩
 have HB1 := hI hb1; clear hb1
 by_cases hx : 0 ≤ x ∧ x < (n : Int)
 ·rw [decide_eq_true hx]
  go_wp2_with fail
  refine (mhas_c b An n cn y w1 ((HB1.out.cell (p := ⟨b, 0, none⟩) hbl).trans HC0.out)).mono ?_
  rintro e w2 ⟨rfl, hb2⟩
  have HB2 := hI (HB1.out.trans (hb2.mono HB1.out.size)); clear hb2 HB1
  by_cases hy : 0 ≤ y ∧ y < (n : Int)
  ·rw [decide_eq_true hy]
   obtain ⟨xn, rfl⟩ : ∃ xn : Nat, x = xn := ⟨x.toNat, by omega⟩
   obtain ⟨yn, rfl⟩ : ∃ yn : Nat, y = yn := ⟨y.toNat, by omega⟩
   have HD : Hid (distI n rs xn yn = distN n rs xn yn) := by show _ = _; unfold distI; rw [if_pos ⟨hx, hy⟩]; rfl
   have hyn : yn < n := by omega
   have hyn' : (yn : Int) < (n : Int) := hy.2
   go_wp2_with fail
   refine (from_c b n rs xn w2 (HM.out.below HB2.out) (by omega)).mono ?_
   rintro e w3 ⟨g, rfl, hg, hb3⟩
   have HB3 := hI (HB2.out.trans (hb3.mono HB2.out.size))
   have hc := rowI_cell hg hyn
   clear hb3 hg HB2 hx hy
   obtain ⟨o, ho⟩ : ∃ o, o = distN n rs xn yn := ⟨_, rfl⟩
   have HO : Hid (distI n rs xn yn = o) := HD.out.trans ho.symm
   rw [← ho] at hc
   clear ho
   cases o with
   | none =>
    simp only [arrI] at hc
    go_wp2
    go_ret2
    exact ⟨by rw [HO.out]; rfl, HB3.out⟩
   | some d =>
    simp only [arrI] at hc
    go_wp2
    go_ret2
    exact ⟨by rw [HO.out]; simp, HB3.out⟩
  ·have HD : Hid (distI n rs x y = none) := by show _ = _; unfold distI; rw [if_neg (fun h => hy h.2)]
   rw [decide_eq_false hy]
   clear hx hy
   go_wp2
   go_ret2
   exact ⟨by rw [HD.out]; rfl, HB2.out⟩
 ·have HD : Hid (distI n rs x y = none) := by show _ = _; unfold distI; rw [if_neg (fun h => hx h.1)]
  rw [decide_eq_false hx]
  clear hx
  go_wp2
  go_ret2
  exact ⟨by rw [HD.out]; rfl, HB1.out⟩
structure WaveR where
 d : WaveD
 A : Option Addr
 n : Nat
 c : Nat
def WaveR.cells (x : WaveR) : List Value := [.int .i64 x.d.law, .slice x.A x.n x.c, .int .i64 x.d.time, .int .i64 x.d.slow, .int .i64 x.d.fin]
theorem WaveR.len (x : WaveR) : x.cells.length = 5 := rfl
abbrev waveV (x : WaveR) : Value := .agg #[.int .i64 x.d.law, .slice x.A x.n x.c, .int .i64 x.d.time, .int .i64 x.d.slow, .int .i64 x.d.fin]
structure WaveU (x : WaveD) : Prop where
 law : -9223372036854775808 ≤ x.law ∧ x.law ≤ 9223372036854775807
 time : -9223372036854775808 ≤ x.time ∧ x.time ≤ 9223372036854775807
 slow : -9223372036854775808 ≤ x.slow ∧ x.slow ≤ 9223372036854775807
 fin : -9223372036854775808 ≤ x.fin ∧ x.fin ≤ 9223372036854775807
 at_ : ∀ a ∈ x.at_, -9223372036854775808 ≤ a ∧ a ≤ 9223372036854775807
structure WaveAt (w : World) (x : WaveR) : Prop where
 pts : IsInts w x.A x.n x.c x.d.at_
 u : WaveU x.d
def IsWaves (w : World) (A : Option Addr) (n c : Nat) (ys : List WaveR) : Prop := Recs WaveR.cells 5 w A n c ys ∧ ∀ y ∈ ys, WaveAt w y
def wavesD (ys : List WaveR) : List WaveD := ys.map WaveR.d
section
variable {w w' : World} {A : Option Addr} {n c : Nat} {ys : List WaveR}
theorem WaveAt.below {x : WaveR} (h : WaveAt w x) (hb : Below w.heap.size w w') : WaveAt w' x := ⟨Cells.below h.pts hb rr, h.u⟩
theorem IsWaves.below (h : IsWaves w A n c ys) (hb : Below w.heap.size w w') : IsWaves w' A n c ys := ⟨h.1.below hb rr, fun y hy => (h.2 y hy).below hb⟩
theorem IsWaves.len (h : IsWaves w A n c ys) : ys.length = n := h.1.2
theorem IsWaves.max (h : IsWaves w A n c ys) : n ≤ c ∧ c ≤ 9223372036854775807 := by have h1 := h.1.1.2.1; have h2 := h.1.1.2.2.1; unfold maxLen at h2; omega
theorem IsWaves.at_ (h : IsWaves w A n c ys) {k : Nat} {x : WaveR} (hx : ys[k]? = some x) : ∃ b off, A = some ⟨b, off, none⟩ ∧ b < w.heap.size ∧ WaveAt w x ∧
  w.cell? ⟨b, off + k * 5, none⟩ = some (.int .i64 x.d.law) ∧ w.cell? ⟨b, off + k * 5 + 1, none⟩ = some (.slice x.A x.n x.c) ∧ w.cell? ⟨b, off + k * 5 + 2, none⟩ = some (.int .i64 x.d.time) ∧ w.cell? ⟨b, off + k * 5 + 3, none⟩ = some (.int .i64 x.d.slow) ∧ w.cell? ⟨b, off + k * 5 + 4, none⟩ = some (.int .i64 x.d.fin) := by
 obtain ⟨b, off, hA, hb, hc⟩ := h.1.at_ WaveR.len (by decide) hx
 refine ⟨b, off, hA, hb, h.2 x (List.mem_of_getElem? hx), ?_⟩
 simp only [Nat.add_assoc]
 exact ⟨hc 0 _ rfl, hc 1 _ rfl, hc 2 _ rfl, hc 3 _ rfl, hc 4 _ rfl⟩
theorem IsWaves.get (h : IsWaves w A n c ys) {k : Nat} (hk : k < n) : ∃ x, ys[k]? = some x := ⟨ys[k]'(by rw [h.len]; exact hk), List.getElem?_eq_getElem _⟩
end
end Go.Proofs.YtaglfmlgbcmakaaGreatDoor

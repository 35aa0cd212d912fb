/-
  Laws and words that make lays; the law that makes a word longer; what the functions of the chapter answer in ablautlaw10.DeriveKnown.
-/
import Derived.Test.YtlgliddhideflaaGreatDoorG34
import Derived.Test.YtlgliddhideflaaGreatDoorXMkS
import Derived.Test.YtlgliddhideflaaGreatDoorXIdleM
import Derived.Test.YtlgliddhideflaaGreatDoorG52
set_option linter.all false
set_option maxRecDepth 100000
set_option maxHeartbeats 4000000
namespace Go.Proofs.YtlgliddhideflaaGreatDoor
open Go.RowKit Go.Shelf
theorem madeR {α : Type} (enc : α → List Value) (k : Nat) (hlen : ∀ x, (enc x).length = k) (hk : 0 < k) (x : α) (n : Nat) : madeCells (enc x).toArray (n * k) = ((List.replicate n x).flatMap enc).toArray := by
 apply Array.ext
 ·simp [size_madeCells, flat_len enc k hlen]
 ·intro i h1 h2
  have hi : i < n * k := by simpa [size_madeCells] using h1
  have hq : i / k < n := Nat.div_lt_of_lt_mul (by rw [Nat.mul_comm]; exact hi)
  have hm : i % k < k := Nat.mod_lt _ hk
  have hz : (List.replicate n x)[i / k]? = some x := by rw [List.getElem?_replicate, if_pos hq]
  have hl : i % k < (enc x).length := by rw [hlen]; exact hm
  have h3 := flat_at enc k hlen _ (i / k) x hz (i % k) _ (List.getElem?_eq_getElem hl)
  rw [show i / k * k + i % k = i by rw [Nat.mul_comm]; exact Nat.div_add_mod i k] at h3
  have h4 := (List.getElem?_eq_some_iff.1 h3).2
  refine Eq.trans ?_ h4.symm
  simp [madeCells, hlen, List.getElem?_eq_getElem hl]
def nodZ : Nd := ⟨0, 0, 0, false, 0, 0⟩
def zlD : LawD := ⟨⟨#[]⟩, (nodZ, .nil), (nodZ, .nil), [], [], 0⟩
def zlA : LawA := ⟨none, 0, none, 0, none, 0, none, 0⟩
def zlR : LawR := ⟨zlD, zlA⟩
theorem zero_at (w : World) : LawAt w zlR.l zlR.a := ⟨⟨⟨rfl, rr, by decide, fun _ => rfl⟩, trivial⟩, ⟨⟨rfl, rr, by decide, fun _ => rfl⟩, trivial⟩, Cells.nil _ _, ⟨Cells.nil _ _, rfl⟩, by decide⟩
theorem run_mk_lawsZ (n : Nat) (hn : n ≤ 4096) (w : World) : (Instr.makeSlice 35 (.int .i64 (n : Int)) (.int .i64 (n : Int))).run Tryz.prog w = .ok (.slice (some ⟨w.heap.size, 0, none⟩) n n) (w.alloc (.cells ((List.replicate n zlR).flatMap LawR.cells).toArray 34)) := by
 obtain ⟨i, hi, hzz⟩ := Option.map_eq_some_iff.1 law_info
 simp only [Prod.mk.injEq] at hzz
 obtain ⟨hz, hs, hb⟩ := hzz
 have hr := run_make (P := Tryz.prog) w 35 34 i _ Tryz.underlying35 hi hz .i64 .i64 n n (by omega) (Int.le_refl _) (by rw [hb]; omega) (by omega)
 rw [Int.toNat_natCast, hs] at hr
 rw [← madeR LawR.cells 18 LawR.len (by decide) zlR n]
 exact hr
theorem own_mk_laws (w : World) (n : Nat) (hn : n ≤ 4096) : (w.alloc (.cells ((List.replicate n zlR).flatMap LawR.cells).toArray 34)).ownsRow w.heap.size 34 18 (.slice (some ⟨w.heap.size, 0, none⟩) n n) n ((List.replicate n zlR).flatMap LawR.cells) :=
 World.ownsRow_lit w _ n rr (by unfold maxLen; omega) (by simp [flat_len LawR.cells 18 LawR.len])
-- a slice of no words that make lays
def wrdZ : Part := (none, 0, 0, [])
theorem run_mk_wordsZ (n : Nat) (hn : n ≤ 4096) (w : World) : (Instr.makeSlice 46 (.int .i64 (n : Int)) (.int .i64 (n : Int))).run Tryz.prog w = .ok (.slice (some ⟨w.heap.size, 0, none⟩) n n) (w.alloc (.cells ((List.replicate n wrdZ).map Part.val).toArray 32)) := by
 obtain ⟨i, hi, hzz⟩ := Option.map_eq_some_iff.1 words_info
 simp only [Prod.mk.injEq] at hzz
 obtain ⟨hz, hs, hb⟩ := hzz
 have hr := run_make (P := Tryz.prog) w 46 32 i _ Tryz.underlying46 hi hz .i64 .i64 n n (by omega) (Int.le_refl _) (by rw [hb]; omega) (by omega)
 rw [Int.toNat_natCast, hs] at hr
 have he : ((List.replicate n wrdZ).map Part.val) = (List.replicate n wrdZ).flatMap (fun p => [p.val]) := by generalize List.replicate n wrdZ = l; induction l with | nil => rfl | cons x l ih => rw [List.map_cons, List.flatMap_cons, ih]; rfl
 rw [he, ← madeR (fun p : Part => [p.val]) 1 (fun _ => rfl) (by decide) wrdZ n]
 exact hr
theorem mk_wordsZ (w : World) (n : Nat) (hn : n ≤ 4096) : IsWords (w.alloc (.cells ((List.replicate n wrdZ).map Part.val).toArray 32)) (some ⟨w.heap.size, 0, none⟩) n n (List.replicate n []) := by
 have h := built_words w (List.replicate n wrdZ) 32 (by simpa using hn) (fun p hp => by rw [List.eq_of_mem_replicate hp]; exact Cells.nil _ _)
 simpa [wrdZ, Part.word] using h
def gD : LawD := { name := ⟨#[88]⟩, left := (⟨2, 0, 0, false, 0, 0⟩, .nil), right := (nodZ, .nil), ifs := [], outs := [⟨-1, 0, 5, 2, 0, 0⟩], mode := 1 }
def badW : List Snd := [(1, 1)]
def longW : List Snd := List.replicate 32 (0, 0)
-- what the calls answer
theorem kn_laws : lawsE (List.replicate 64 fD) = 0 := by decide +kernel
theorem kn_over (l : LawD) : lawsE (List.replicate 64 fD ++ [l]) = 12 := by unfold lawsE; rw [if_pos (by simp)]
theorem kn_zero : lawsE [zlD] = 17 := by decide +kernel
theorem kn_x : deriveM (List.replicate 64 fD) [sA, sA, sA, sA] = (0, []) := by decide +kernel
theorem kn_g : deriveM [zlD] badW = (17, []) := by decide +kernel
theorem kn_h : deriveM [gD] badW = (14, []) := by decide +kernel
theorem kn_i : deriveM [fD, gD] longW = (11, []) := by decide +kernel
theorem kn_j : (deriveM [gD] (longW.drop 1)).1 = 0 ∧ (deriveM [gD] (longW.drop 1)).2.length = 32 := by decide +kernel
theorem kn_z : partM [vD, fD] 1 2 [sA, sP, sA] = (0, [sA, sP]) := by decide +kernel
theorem kn_m : (partM [vD, fD] 1 3 [sA, sP, sA]).1 = 3 := by decide +kernel
theorem kn_n : (partM [vD, fD] 2 1 [sA, sP, sA]).1 = 3 := by decide +kernel
theorem kn_o : (partM [gD, gD] 0 3 longW).1 = 3 := by decide +kernel
theorem kn_q : partM [vD, fD] 2 2 [sA, sP, sA] = (0, [sA, sP, sA]) := by decide +kernel
theorem kn_r : idleM [vD, vD, fD] [[sA, sP, sA], [sP, sA]] = (0, [0, 1]) := by decide +kernel
theorem kn_s : idleM [vD, fD] [] = (0, [0, 1]) := by decide +kernel
theorem kn_t : (idleM [gD, fD] [[sA, sP, sA], longW]).1 = 11 := by decide +kernel
theorem kn_u : (pairsM [vD, fD] (List.replicate 257 [])).1 = 12 := by decide +kernel
theorem kn_c : pairsM [fD] [[sA, sP, sA], [sP, sA, sP]] = (0, [([sA, sP, sA], [sA, sP]), ([sP, sA, sP], [sP, sA, sP])]) := by decide +kernel
theorem kn_d : (usedM [vD, fD] [[sA, sP, sA], badW, longW ++ [sP]]).1 = 14 := by decide +kernel
theorem kn_aa : splitM [gD] [zlD] badW = (0, false, 17) := by decide +kernel
theorem kn_bb : splitM [gD] [] longW = (0, false, 11) := by decide +kernel
theorem kn_cc : splitM [vD] [fD] [sP, sA, sP] = (0, false, 0) := by decide +kernel
theorem kn_dd : splitM [] [vD, fD] [sA, sP] = (0, false, 0) := by decide +kernel
end Go.Proofs.YtlgliddhideflaaGreatDoor

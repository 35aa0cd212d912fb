/-
  A slice of laws that make lays, and what the functions of the chapter answer in the nine cases of ablautlaw29.ParadigmKnown.
-/
import Derived.Test.YtlgliddhideflaaGreatDoorXKn3
set_option linter.all false
set_option maxRecDepth 100000
set_option maxHeartbeats 4000000
namespace Go.Proofs.YtlgliddhideflaaGreatDoor
open Go.RowKit Go.Shelf
def nodeZ : Nd := ⟨0, 0, 0, false, 0, 0⟩
def lawZD : LawD := ⟨⟨#[]⟩, (nodeZ, .nil), (nodeZ, .nil), [], [], 0⟩
def lawZR : LawR := ⟨lawZD, ⟨none, 0, none, 0, none, 0, none, 0⟩⟩
theorem lawZ_at (w : World) : LawAt w lawZR.l lawZR.a := ⟨⟨⟨rfl, rr, by decide, fun _ => rfl⟩, trivial⟩, ⟨⟨rfl, rr, by decide, fun _ => rfl⟩, trivial⟩, Cells.nil _ _, ⟨Cells.nil _ _, rfl⟩, by decide⟩
theorem run_mk_laws (n : Nat) (hn : n ≤ 4096) (w : World) : (Instr.makeSlice 35 (.int .i64 (n : Int)) (.int .i64 (n : Int))).run Tryz.prog w = .ok (.slice (some ⟨w.heap.size, 0, none⟩) n n) (w.alloc (.cells ((List.replicate n lawZR).flatMap LawR.cells).toArray 34)) := by
 obtain ⟨i, hi, hzz⟩ := Option.map_eq_some_iff.1 law_info
 simp only [Prod.mk.injEq] at hzz
 obtain ⟨hz, hs, hb⟩ := hzz
 have hr := run_make (P := Tryz.prog) w 35 34 i _ Tryz.underlying35 hi hz .i64 .i64 n n (by omega) (Int.le_refl _) (by rw [hb]; omega) (by omega)
 rw [Int.toNat_natCast, hs] at hr
 rw [← made_rep LawR.cells 18 LawR.len (by decide) lawZR n]
 exact hr
theorem mk_laws (w : World) (n : Nat) (hn : n ≤ 4096) : IsLaws (w.alloc (.cells ((List.replicate n lawZR).flatMap LawR.cells).toArray 34)) (some ⟨w.heap.size, 0, none⟩) n n (List.replicate n lawZR) := by
 have h := built_laws w (List.replicate n lawZR) 34 (by simpa using hn) (fun x hx => by rw [List.eq_of_mem_replicate hx]; exact lawZ_at w)
 simpa using h
theorem laws65 (n : Nat) (hn : 64 < n) : lawsE (lawsD (List.replicate n lawZR)) = 12 := by
 unfold lawsE; rw [if_pos (by simp [lawsD]; omega)]
-- a slice of no words that make lays
def wordZ : Part := (none, 0, 0, [])
theorem run_mk_words (n : Nat) (hn : n ≤ 4096) (w : World) : (Instr.makeSlice 46 (.int .i64 (n : Int)) (.int .i64 (n : Int))).run Tryz.prog w = .ok (.slice (some ⟨w.heap.size, 0, none⟩) n n) (w.alloc (.cells ((List.replicate n wordZ).map Part.val).toArray 32)) := by
 obtain ⟨i, hi, hzz⟩ := Option.map_eq_some_iff.1 words_info
 simp only [Prod.mk.injEq] at hzz
 obtain ⟨hz, hs, hb⟩ := hzz
 have hr := run_make (P := Tryz.prog) w 46 32 i _ Tryz.underlying46 hi hz .i64 .i64 n n (by omega) (Int.le_refl _) (by rw [hb]; omega) (by omega)
 rw [Int.toNat_natCast, hs] at hr
 have he : ((List.replicate n wordZ).map Part.val) = (List.replicate n wordZ).flatMap (fun p => [p.val]) := by generalize List.replicate n wordZ = l; induction l with | nil => rfl | cons x l ih => rw [List.map_cons, List.flatMap_cons, ih]; rfl
 rw [he, ← made_rep (fun p : Part => [p.val]) 1 (fun _ => rfl) (by decide) wordZ n]
 exact hr
theorem mk_words (w : World) (n : Nat) (hn : n ≤ 4096) : IsWords (w.alloc (.cells ((List.replicate n wordZ).map Part.val).toArray 32)) (some ⟨w.heap.size, 0, none⟩) n n (List.replicate n []) := by
 have h := built_words w (List.replicate n wordZ) 32 (by simpa using hn) (fun p hp => by rw [List.eq_of_mem_replicate hp]; exact Cells.nil _ _)
 simpa [wordZ, Part.word] using h
def caseE (x e : Int) : Int := if x = 0 then e else x
theorem cases29_a : ∀ x ∈ cases29, (pStemM x.1 99).1 = caseE x.2 3 ∧ (pEndsM x.1 (-1)).1 = caseE x.2 3 ∧ (pSameM x.1 64).1 = caseE x.2 3 := by decide +kernel
theorem cases29_b : ∀ x ∈ cases29, (pGradesM x.1 64 (16777216, 0)).1 = caseE x.2 14 ∧ (pClassM x.1).1 = x.2 ∧ (pDerM x.1 []).1 = x.2 := by decide +kernel
end Go.Proofs.YtlgliddhideflaaGreatDoor

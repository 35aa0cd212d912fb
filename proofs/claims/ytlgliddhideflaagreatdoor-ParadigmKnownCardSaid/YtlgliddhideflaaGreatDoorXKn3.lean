/-
  Slices of forms and of rows that make lays, and the values of the table of ablautlaw29.ParadigmKnown.
-/
import Derived.Test.YtlgliddhideflaaGreatDoorG65
import Derived.Test.YtlgliddhideflaaGreatDoorG66
set_option linter.all false
set_option maxRecDepth 100000
set_option maxHeartbeats 4000000
namespace Go.Proofs.YtlgliddhideflaaGreatDoor
open Go.RowKit Go.Shelf
theorem made_rep {α : Type} (enc : α → List Value) (k : Nat) (hlen : ∀ x, (enc x).length = k) (hk : 0 < k) (x : α) (n : Nat) : madeCells (enc x).toArray (n * k) = ((List.replicate n x).flatMap enc).toArray := by
 apply Array.ext
 ·simp [size_madeCells, flat_len enc k hlen]
 ·intro i h1 h2
  have hi : i < n * k := by simpa [size_madeCells] using h1
  have hq : i / k < n := Nat.div_lt_of_lt_mul (by rw [Nat.mul_comm]; exact hi)
  have hm : i % k < k := Nat.mod_lt _ hk
  have hz : (List.replicate n x)[i / k]? = some x := by rw [List.getElem?_replicate, if_pos hq]
  have hl : i % k < (enc x).length := by rw [hlen]; exact hm
  have h3 := flat_at enc k hlen _ (i / k) x hz (i % k) _ (List.getElem?_eq_getElem hl)
  rw [show i / k * k + i % k = i by rw [Nat.mul_comm]; exact Nat.div_add_mod i k] at h3
  have h4 := (List.getElem?_eq_some_iff.1 h3).2
  refine Eq.trans ?_ h4.symm
  simp [madeCells, hlen, List.getElem?_eq_getElem hl]
theorem run_mk_forms (n : Nat) (hn : n ≤ 4096) (w : World) : (Instr.makeSlice 62 (.int .i64 (n : Int)) (.int .i64 (n : Int))).run Tryz.prog w = .ok (.slice (some ⟨w.heap.size, 0, none⟩) n n) (w.alloc (.cells ((List.replicate n formZ).flatMap FormR.cells).toArray 57)) := by
 obtain ⟨i, hi, hzz⟩ := Option.map_eq_some_iff.1 form_info
 simp only [Prod.mk.injEq] at hzz
 obtain ⟨hz, hs, hb⟩ := hzz
 have hr := run_make (P := Tryz.prog) w 62 57 i _ Tryz.underlying62 hi hz .i64 .i64 n n (by omega) (Int.le_refl _) (by rw [hb]; omega) (by omega)
 rw [Int.toNat_natCast, hs] at hr
 rw [← made_rep FormR.cells 2 FormR.len (by decide) formZ n]
 exact hr
def rowZ : RowR := ⟨none, 0, 0, []⟩
theorem run_mk_rows (n : Nat) (hn : n ≤ 4096) (w : World) : (Instr.makeSlice 60 (.int .i64 (n : Int)) (.int .i64 (n : Int))).run Tryz.prog w = .ok (.slice (some ⟨w.heap.size, 0, none⟩) n n) (w.alloc (.cells ((List.replicate n rowZ).map RowR.val).toArray 62)) := by
 obtain ⟨i, hi, hzz⟩ := Option.map_eq_some_iff.1 fms_info
 simp only [Prod.mk.injEq] at hzz
 obtain ⟨hz, hs, hb⟩ := hzz
 have hr := run_make (P := Tryz.prog) w 60 62 i _ Tryz.underlying60 hi hz .i64 .i64 n n (by omega) (Int.le_refl _) (by rw [hb]; omega) (by omega)
 rw [Int.toNat_natCast, hs] at hr
 rw [← flatMap_one', ← made_rep RowR.cells 1 RowR.len (by decide) rowZ n]
 exact hr
theorem mk_forms (w : World) (n : Nat) (hn : n ≤ 4096) : IsForms (w.alloc (.cells ((List.replicate n formZ).flatMap FormR.cells).toArray 57)) (some ⟨w.heap.size, 0, none⟩) n n (List.replicate n (false, [])) := by
 have h := built_forms w (List.replicate n formZ) 57 (by simpa using hn) (fun f hf => by rw [List.eq_of_mem_replicate hf]; exact Cells.nil _ _)
 simpa [formZ, FormR.data, Part.word] using h
theorem mk_rows (w : World) (n : Nat) (hn : n ≤ 4096) : IsPar (w.alloc (.cells ((List.replicate n rowZ).map RowR.val).toArray 62)) (some ⟨w.heap.size, 0, none⟩) n n (List.replicate n []) := by
 have h := built_par w (List.replicate n rowZ) 62 (by simpa using hn) (fun f hf => by rw [List.eq_of_mem_replicate hf]; exact IsForms.nil _)
 simpa [rowZ] using h
def FrmV (w : World) (v : Value) (f : Frm) : Prop := ∃ r : FormR, v = formV r ∧ r.data = f ∧ IsWord w r.p.1 r.p.2.1 r.p.2.2.1 r.p.2.2.2
def FmsV (w : World) (v : Value) (l : List Frm) : Prop := ∃ A n c, v = .slice A n c ∧ IsForms w A n c l
def TabV (w : World) (v : Value) (T : List (List Frm)) : Prop := ∃ A n c, v = .slice A n c ∧ IsPar w A n c T
def CasV (w : World) (v : Value) (T : List (List Frm)) (e : Int) : Prop := ∃ A n c, v = .agg #[.slice A n c, .int .i64 e] ∧ IsPar w A n c T
section
variable {w w' : World} {v : Value}
theorem FrmV.below {f : Frm} (h : FrmV w v f) (hb : Below w.heap.size w w') : FrmV w' v f := by
 obtain ⟨r, e, h1, h2⟩ := h; exact ⟨r, e, h1, h2.below hb rr⟩
theorem FmsV.below {l : List Frm} (h : FmsV w v l) (hb : Below w.heap.size w w') : FmsV w' v l := by
 obtain ⟨A, n, c, e, h⟩ := h; exact ⟨A, n, c, e, h.below hb rr⟩
theorem TabV.below {T : List (List Frm)} (h : TabV w v T) (hb : Below w.heap.size w w') : TabV w' v T := by
 obtain ⟨A, n, c, e, h⟩ := h; exact ⟨A, n, c, e, h.below hb rr⟩
theorem CasV.below {T : List (List Frm)} {x : Int} (h : CasV w v T x) (hb : Below w.heap.size w w') : CasV w' v T x := by
 obtain ⟨A, n, c, e, h⟩ := h; exact ⟨A, n, c, e, h.below hb rr⟩
end
def badF : Frm := (true, [(1, 1)])
def longFm : Frm := (true, List.replicate 33 (0, 0))
def wrongF : Frm := (false, [(2, 5)])
def cases29 : List (List (List Frm) × Int) := [([], 0), (List.replicate 64 [], 0), (List.replicate 65 [], 12), ([[], List.replicate 17 (false, [])], 12), ([[badF], []], 2), ([[badF, wrongF]], 2), ([[badF, longFm]], 14), ([[(true, []), longFm], [badF, (false, [])]], 11), ([List.replicate 16 (false, [])], 0)]
theorem cases29_ok : ∀ x ∈ cases29, parE x.1 = x.2 := by decide +kernel
end Go.Proofs.YtlgliddhideflaaGreatDoor

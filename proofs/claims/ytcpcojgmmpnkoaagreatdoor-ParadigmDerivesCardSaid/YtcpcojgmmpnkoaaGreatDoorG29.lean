/-
  Arguments are read, with the ranges of their numbers.
-/
import Derived.Test.YtcpcojgmmpnkoaaGreatDoorG28
import Derived.Test.YtcpcojgmmpnkoaaGreatDoorG53
set_option linter.all false
set_option maxRecDepth 100000
set_option maxHeartbeats 4000000
namespace Go.Proofs.YtcpcojgmmpnkoaaGreatDoor
open Go.RowKit Go.ChangeShapes Go.WideShapes
theorem foOf_u : ∀ ps : List PatR, (∀ p ∈ ps, NdU p.k ∧ FoU p.ch) → FoU (foOf ps)
 | [], _ => trivial
 | p :: ps, h => ⟨(h p (by simp)).1, (h p (by simp)).2, foOf_u ps fun q hq => h q (by simp [hq])⟩
section
variable {H : Type} {enc : TypeId × Value → H} {w : World} {base : Nat} {spare : Nat → Bool} {held : Bool}
set_option maxRecDepth 100000
theorem out_rowU {fuel : Nat} {r : List Value} {x : DataW H × List MemPlace} (h : DataW.trod enc Tryz.prog w base spare held fuel 30 r = some x) : ∃ s : OutD, r = s.cells ∧ OutU s := by
 obtain ⟨n, _, hl, hf⟩ := open_fields Tryz.underlying30 h
 rw [c_out] at hl
 match r, hl with
 | [c0, c1, c2, c3, c4, c5], _ =>
  simp only [List.mem_cons, forall_eq_or_imp, List.not_mem_nil, false_implies, implies_true, and_true, c_u32, c_int, c_snd, List.drop_zero, List.drop_succ_cons, List.take_succ_cons, List.take_zero] at hf
  obtain ⟨⟨_, h0⟩, ⟨_, h1⟩, ⟨_, h2⟩, ⟨_, h3⟩, ⟨_, h4⟩⟩ := hf
  obtain ⟨n0, e0, _⟩ := DataW.trod_int Tryz.underlying3 h0
  obtain ⟨n1, e1, _, w1⟩ := DataW.trod_int Tryz.underlying22 h1
  obtain ⟨n2, e2, w2⟩ := sound_rowU h2
  obtain ⟨n3, e3, _, w3⟩ := DataW.trod_int Tryz.underlying22 h3
  obtain ⟨n4, e4, _⟩ := DataW.trod_int Tryz.underlying3 h4
  simp only [List.cons.injEq, and_true, sndCs] at e0 e1 e2 e3 e4
  obtain ⟨rfl, rfl⟩ := e2
  subst e0 e1 e3 e4
  exact ⟨⟨n0, n1, n2.1, n2.2, n3, n4⟩, rfl, u32_within w1, w2.1, w2.2, u32_within w3⟩
theorem open_outs0U {fuel : Nat} {cs : List Value} {x : DataW H × List MemPlace} (h : DataW.trod enc Tryz.prog w base spare held fuel 31 cs = some x) : ∃ A n c xs, cs = [.slice A n c] ∧ Recs OutD.cells 6 w A n c xs ∧ ∀ x ∈ xs, OutU x := by
 obtain ⟨A, n, c, m, L, rfl, hL, hc, hr⟩ := open_rows Tryz.underlying31 (by rw [show Tryz.prog.cellsOf _ = 6 from c_out]; decide) h
 obtain ⟨xs, rfl, hq⟩ := rows_are (g := OutD.cells) L (fun r hr' => out_rowU (hr r hr').2.2.choose_spec)
 rw [show Tryz.prog.cellsOf _ = 6 from c_out, flatMap_map] at hc
 exact ⟨A, n, c, xs, rfl, ⟨hc, by simpa using hL⟩, hq⟩
theorem pat_row0U {fuel : Nat} (ih : ∀ (f : Nat) (cs : List Value) (x : DataW H × List MemPlace), f < fuel → DataW.trod enc Tryz.prog w base spare held f 25 cs = some x → ∃ A n c fo, cs = [.slice A n c] ∧ FSl w A n c fo ∧ FoU fo)
  {r : List Value} {x : DataW H × List MemPlace} (h : DataW.trod enc Tryz.prog w base spare held fuel 27 r = some x) : ∃ p : PatR, r = p.cells ∧ FSl w p.A p.ch.len p.c p.ch ∧ NdU p.k ∧ FoU p.ch := by
 obtain ⟨n, hn, hl, hf⟩ := open_fields Tryz.underlying27 h
 rw [c_pat] at hl
 match r, hl with
 | [c0, c1, c2, c3, c4, c5, c6], _ =>
  simp only [List.mem_cons, forall_eq_or_imp, List.not_mem_nil, false_implies, implies_true, and_true, c_int, c_snd, c_bool, c_pats, List.drop_zero, List.drop_succ_cons, List.take_succ_cons, List.take_zero] at hf
  obtain ⟨⟨_, h0⟩, ⟨_, h1⟩, ⟨_, h2⟩, ⟨_, h3⟩, ⟨_, h4⟩, ⟨_, h5⟩⟩ := hf
  obtain ⟨n0, e0, _⟩ := DataW.trod_int Tryz.underlying3 h0
  obtain ⟨n1, e1, w1⟩ := sound_rowU h1
  obtain ⟨n2, e2, _⟩ := DataW.trod_bool Tryz.underlying4 h2
  obtain ⟨n3, e3, _⟩ := DataW.trod_int Tryz.underlying3 h3
  obtain ⟨n4, e4, _⟩ := DataW.trod_int Tryz.underlying3 h4
  obtain ⟨A, m, c, fo, e5, hfo, hfu⟩ := ih n _ _ hn h5
  simp only [List.cons.injEq, and_true, sndCs] at e0 e1 e2 e3 e4 e5
  obtain ⟨rfl, rfl⟩ := e1
  subst e0 e2 e3 e4 e5
  obtain rfl := hfo.1.1
  exact ⟨⟨⟨n0, n1.1, n1.2, n2, n3, n4⟩, A, c, fo⟩, rfl, hfo, w1, hfu⟩
theorem open_pats0U : ∀ (fuel : Nat) (cs : List Value) (x : DataW H × List MemPlace), DataW.trod enc Tryz.prog w base spare held fuel 25 cs = some x → ∃ A n c fo, cs = [.slice A n c] ∧ FSl w A n c fo ∧ FoU fo := by
 intro fuel
 induction fuel using Nat.strongRecOn with
 | ind fuel ih =>
  intro cs x h
  obtain ⟨A, n, c, m, L, rfl, hL, hc, hr⟩ := open_rows Tryz.underlying25 (by rw [show Tryz.prog.cellsOf _ = 7 from c_pat]; decide) h
  obtain ⟨ps, rfl, hp⟩ := rows_are (g := PatR.cells) L (fun r hr' => pat_row0U (fun f cs x hf hx => ih f (Nat.lt_trans hf (hr r hr').1) cs x hx) (hr r hr').2.2.choose_spec)
  rw [show Tryz.prog.cellsOf _ = 7 from c_pat, flatMap_map] at hc
  obtain rfl : ps.length = n := by simpa using hL
  refine ⟨A, _, c, foOf ps, rfl, ⟨⟨(foOf_len ps).symm, hc.2.1, hc.2.2.1, hc.2.2.2.1⟩, ?_⟩, foOf_u ps fun p hp' => (hp p hp').2⟩
  cases ps with
  | nil => trivial
  | cons p ps =>
   obtain ⟨b, off, rfl, hb, hcs⟩ := hc.2.2.2.2 (by simp)
   exact fat_of hb _ 0 (fun j v hv => by rw [show off + 0 * 7 + j = off + j by omega]; exact hcs j v hv) fun p hp' => (hp p hp').1
theorem pat_rowU {fuel : Nat} {r : List Value} {x : DataW H × List MemPlace} (h : DataW.trod enc Tryz.prog w base spare held fuel 27 r = some x) : ∃ p : PatR, r = p.cells ∧ FSl w p.A p.ch.len p.c p.ch ∧ NdU p.k ∧ FoU p.ch :=
 pat_row0U (fun f cs x _ hx => open_pats0U f cs x hx) h
theorem law_rowU {fuel : Nat} {r : List Value} {x : DataW H × List MemPlace} (h : DataW.trod enc Tryz.prog w base spare held fuel 34 r = some x) : ∃ l : LawR, r = l.cells ∧ LawAt w l.l l.a ∧ LawU l.l := by
 obtain ⟨n, hn, hl, hf⟩ := open_fields Tryz.underlying34 h
 rw [c_law] at hl
 match r, hl with
 | [c0, c1, c2, c3, c4, c5, c6, c7, c8, c9, c10, c11, c12, c13, c14, c15, c16, c17], _ =>
  simp only [List.mem_cons, forall_eq_or_imp, List.not_mem_nil, false_implies, implies_true, and_true, c_int, c_string, c_pat, c_word, c_outs, List.drop_zero, List.drop_succ_cons, List.take_succ_cons, List.take_zero] at hf
  obtain ⟨⟨_, h0⟩, ⟨_, h1⟩, ⟨_, h2⟩, ⟨_, h3⟩, ⟨_, h4⟩, ⟨_, h5⟩⟩ := hf
  obtain ⟨n0, e0, _, hs⟩ := DataW.trod_string Tryz.underlying9 h0
  obtain ⟨p, e1, hp, up⟩ := pat_rowU h1
  obtain ⟨q, e2, hq, uq⟩ := pat_rowU h2
  obtain ⟨Ai, mi, ci, is, e3, hi, ui⟩ := open_word0U h3
  obtain ⟨Ao, mo, co, os, e4, ho, uo⟩ := open_outs0U h4
  obtain ⟨n5, e5, _⟩ := DataW.trod_int Tryz.underlying3 h5
  simp only [List.cons.injEq, and_true, PatR.cells, patCells] at e0 e1 e2 e3 e4 e5
  obtain ⟨rfl, rfl, rfl, rfl, rfl, rfl, rfl⟩ := e1
  obtain ⟨rfl, rfl, rfl, rfl, rfl, rfl, rfl⟩ := e2
  subst e0 e3 e4 e5
  obtain rfl := hi.len
  obtain rfl := ho.2
  have hs' : n0.size ≤ 9223372036854775807 := by unfold maxLen at hs; omega
  exact ⟨⟨⟨n0, (p.k, p.ch), (q.k, q.ch), is, os, n5⟩, ⟨p.A, p.c, q.A, q.c, Ai, ci, Ao, co⟩⟩, rfl, ⟨hp, hq, hi, ho, hs'⟩, up.1, up.2, uq.1, uq.2, ui, uo⟩
theorem open_laws0U {fuel : Nat} {cs : List Value} {x : DataW H × List MemPlace} (h : DataW.trod enc Tryz.prog w base spare held fuel 35 cs = some x) : ∃ A n c xs, cs = [.slice A n c] ∧ IsLaws w A n c xs ∧ LawsU xs := by
 obtain ⟨A, n, c, m, L, rfl, hL, hc, hr⟩ := open_rows Tryz.underlying35 (by rw [show Tryz.prog.cellsOf _ = 18 from c_law]; decide) h
 obtain ⟨xs, rfl, hx⟩ := rows_are (g := LawR.cells) L (fun r hr' => law_rowU (hr r hr').2.2.choose_spec)
 rw [show Tryz.prog.cellsOf _ = 18 from c_law, flatMap_map] at hc
 exact ⟨A, n, c, xs, rfl, ⟨⟨hc, by simpa using hL⟩, fun x h => (hx x h).1⟩, fun x h => (hx x h).2⟩
end
section
variable {H : Type} {enc : TypeId × Value → H} {w : World} {base : Nat} {spare : Nat → Bool} {held : Bool} {A : Option Addr} {n c : Nat} {d : DataW H} {p : List MemPlace}
theorem open_lawsU (h : DataW.Trod enc Tryz.prog w base spare held 35 (.slice A n c) d p) : ∃ xs, IsLaws w A n c xs ∧ LawsU xs := by
 obtain ⟨_, hf⟩ := h
 obtain ⟨A', n', c', xs, e, hx⟩ := open_laws0U hf
 simp [Value.cells] at e
 obtain ⟨rfl, rfl, rfl⟩ := e
 exact ⟨xs, hx⟩
end
end Go.Proofs.YtcpcojgmmpnkoaaGreatDoor

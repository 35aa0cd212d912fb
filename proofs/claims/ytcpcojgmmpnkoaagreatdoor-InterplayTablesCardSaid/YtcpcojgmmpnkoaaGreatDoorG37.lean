/-
  Words of a slice of words, one by one.
-/
import Derived.Test.YtcpcojgmmpnkoaaGreatDoorG13
set_option linter.unusedVariables false
set_option linter.unusedSimpArgs false
set_option maxRecDepth 100000
set_option maxHeartbeats 4000000
namespace Go.Proofs.YtcpcojgmmpnkoaaGreatDoor
open Go.RowKit Go.Shelf
theorem IsWords.shape {w : World} {A : Option Addr} {n c : Nat} {xss : List (List Snd)} (h : IsWords w A n c xss) (hn : 0 < n) : ∃ b off, A = some ⟨b, off, none⟩ ∧ b < w.heap.size := by
 obtain ⟨b, off, _, _, _, _, hA, hb, _⟩ := h.at_ hn
 exact ⟨b, off, hA, hb⟩
theorem IsWords.cell_at {w : World} {b off n c k : Nat} {xss : List (List Snd)} (h : IsWords w (some ⟨b, off, none⟩) n c xss) (hk : k < n) :
  ∃ A' n' c' xs, w.cell? ⟨b, off + k, none⟩ = some (.slice A' n' c') ∧ xss[k]? = some xs ∧ IsWord w A' n' c' xs := by
 obtain ⟨b', off', A', n', c', xs, hA, _, h1, h2, h3⟩ := h.at_ hk
 obtain ⟨rfl, rfl⟩ : b = b' ∧ off = off' := by simpa using hA
 exact ⟨A', n', c', xs, h1, h2, h3⟩
theorem yields_lawM {ops : Array Oper} {S : World → Prop} {op : Oper} {ac : Act} (hw : Region.wanted op (yielded ops ac.tmps) = true) (x : Operand) (ho : op.op = .load 34 x)
  (b o : Nat) (s : LawR) (hx : ac.eval x = .pointer (some ⟨b, o, none⟩)) (hS : ∀ w, S w → w.rangeAt b o s.cells) : YieldsIf Tryz.prog ops S op (lawV s.l s.a) ac :=
 .inl ⟨hw, fun w hw' => by
  unfold execOp
  simp only [ho, hx, Instr.loadAt, Instr.sureAddr, Sem.run_bind, Sem.run_pure, Result.andThen_ok, run_load_lawM (hS w hw')]⟩
end Go.Proofs.YtcpcojgmmpnkoaaGreatDoor

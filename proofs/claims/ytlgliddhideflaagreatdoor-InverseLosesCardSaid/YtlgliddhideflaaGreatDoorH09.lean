/-
  ablautref10.SamePairs (of equal pairs).
  law.Changes.
-/
import Derived.Test.YtlgliddhideflaaGreatDoorH05
import Derived.Test.YtlgliddhideflaaGreatDoorG33
set_option linter.all false
set_option maxRecDepth 100000
set_option maxHeartbeats 4000000
namespace Go.Proofs.YtlgliddhideflaaGreatDoor
open Go.RowKit Go.Shelf
theorem IsPairs.at2 {w : World} {A : Option Addr} {n c : Nat} {ss : List PairR} (h : IsPairs w A n c ss) {k : Nat} {s : PairR} (hs : ss[k]? = some s) :
  ∃ b off, A = some ⟨b, off, none⟩ ∧ b < w.heap.size ∧ w.cell? ⟨b, off + k * 2, none⟩ = some s.p.val ∧ w.cell? ⟨b, off + k * 2 + 1, none⟩ = some s.q.val := by
 obtain ⟨b, off, hA, hb, hc⟩ := h.1.at_ PairR.len (by decide) hs
 exact ⟨b, off, hA, hb, hc 0 _ rfl, hc 1 _ rfl⟩
theorem IsPairs.max {w : World} {A : Option Addr} {n c : Nat} {ss : List PairR} (h : IsPairs w A n c ss) : n ≤ c ∧ c ≤ 9223372036854775807 := by
 have h1 := h.1.1.2.1; have h2 := h.1.1.2.2.1; unfold maxLen at h2; exact ⟨h1, h2⟩
theorem changes_c (l : LawD) (a : LawA) (A : Option Addr) (n c : Nat) (ws : List Snd) (w : World) (hl : LawAt w l a) (hw : IsWord w A n c ws) (hT : TabOK w) :
  Calls Tryz.prog 60 #[lawV l a, .slice A n c] w fun e w' => e = .returned (.tuple #[.bool (changesM l ws), .int .i64 (applyM l ws).1]) ∧ Below w.heap.size w w' := by
 have HL := hI hl; clear hl
 have HW := hI hw; clear hw
 have HT := hI hT; clear hT
 obtain ⟨Wb, hWb, hrb, hlb, hBb, hzb⟩ := law_box w l a
 go_enter Tryz.func60, Tryz.ntmps60
 go_wp2_with (refine load_law rfl (.tmp 2) rfl w.heap.size l a rfl hrb ?_)
 refine (apply_c l a A n c ws Wb (HL.out.below hBb rr) (HW.out.below hBb rr) (HT.out.below hBb rr)).mono ?_
 rintro e w1 ⟨A1, n1, c1, rfl, hw1, hb1, _⟩
 have hB1 : Below w.heap.size w w1 := hBb.trans (hb1.mono hBb.size)
 have HB1 := hI hB1
 have HW1 := hI hw1
 have hB1s := hB1.size
 clear hWb hrb hb1 hw1 hB1 hBb
 obtain ⟨er, her⟩ : ∃ er, er = (applyM l ws).1 := ⟨_, rfl⟩
 rw [← her]
 have HER := hI her
 by_cases h0 : er = 0
 case neg =>
  have h1 : (er == 0) = false := by simpa using h0
  have HM : Hid (changesM l ws = false) := by show changesM l ws = _; unfold changesM; rw [← her, h1]; rfl
  clear h0 her
  go_wp2
  go_ret2
  exact ⟨by rw [HM.out, ← HER.out]; rfl, HB1.out⟩
 have h1 : (er == 0) = true := by simpa using h0
 have HM : Hid (changesM l ws = !decide ((applyM l ws).2 = ws)) := by show changesM l ws = _; unfold changesM; rw [← her, h1]; rfl
 clear h0 her
 go_wp2_with (go_at_call 22; refine (wEqual_c A1 A n1 n c1 c (applyM l ws).2 ws w1 HW1.out (HW.out.below HB1.out rr)).mono ?_; rintro e w2 ⟨rfl, hb2⟩)
 go_ret2
 exact ⟨by rw [HM.out, ← HER.out]; rfl, HB1.out.trans (hb2.mono hB1s)⟩
end Go.Proofs.YtlgliddhideflaaGreatDoor

/-
  Records of one's own row are written over.
  slices.Clone of laws.
  interplay.exchanged.
-/
import Derived.Deep.MidRow
import Derived.Test.YtcpcojgmmpnkoaaGreatDoorG34
import Derived.Test.YtcpcojgmmpnkoaaGreatDoorG42
set_option linter.unusedVariables false
set_option linter.unusedSimpArgs false
set_option maxRecDepth 100000
set_option maxHeartbeats 4000000
namespace Go.Proofs.YtcpcojgmmpnkoaaGreatDoor
open Go.RowKit Go.Shelf
theorem take_mid {α : Type} (L e : List α) (a m : Nat) (h1 : a + e.length ≤ m) (h2 : m ≤ L.length) :
  (L.take a ++ e ++ L.drop (a + e.length)).take m = (L.take m).take a ++ e ++ (L.take m).drop (a + e.length) := by
 have hl : (L.take a ++ e).length = a + e.length := by rw [List.length_append, List.length_take]; omega
 rw [List.take_append, List.take_of_length_le (l := L.take a ++ e) (by omega), hl, List.take_take, Nat.min_eq_left (by omega : a ≤ m), List.drop_take]
theorem own_set {α : Type} {enc : α → List Value} {sz : Nat} (henc : ∀ x, (enc x).length = sz) {w : World} {base : Nat} {e : TypeId} {g n c : Nat} {xs : List α} (h : w.ownsRow base e sz (.slice (some ⟨g, 0, none⟩) n c) n (xs.flatMap enc))
  (hsz : 0 < sz) {k : Nat} (hk : k < n) (x : α) : (w.setCells g (k * sz) (enc x)).ownsRow base e sz (.slice (some ⟨g, 0, none⟩) n c) n ((xs.set k x).flatMap enc) := by
 obtain ⟨h1, h2⟩ := h
 have hxl : xs.length = n := by rw [flat_len enc sz henc] at h1; exact Nat.eq_of_mul_eq_mul_right hsz h1
 refine ⟨by rw [flat_len enc sz henc, List.length_set, hxl], ?_⟩
 rcases h2 with ⟨_, hn⟩ | ⟨g', cap, cur, hv, hb, hg, hnc, hcm, hcs, ht⟩
 ·omega
 ·injection hv with hA _ hc
  injection hA with hA
  injection hA with hA
  subst hA hc
  have hkm : k * sz + sz ≤ n * sz := by rw [← Nat.succ_mul]; exact Nat.mul_le_mul_right _ hk
  have hnm : n * sz ≤ c * sz := Nat.mul_le_mul_right _ hnc
  obtain ⟨cur', q1, q2, q3⟩ := heap_setCells_same g e (0, 0) (enc x) (k * sz) w cur hg (by rw [henc]; omega)
  refine Or.inr ⟨g, c, cur', rfl, hb, q1, hnc, hcm, by omega, ?_⟩
  rw [q3, take_mid _ _ _ _ (by rw [henc]; exact hkm) (by rw [Array.length_toList]; omega), ht, henc]
  rw [List.set_eq_take_append_cons_drop, if_pos (by omega), List.flatMap_append, List.flatMap_cons, ← flat_take enc sz henc, ← flat_drop enc sz henc, Nat.succ_mul, List.append_assoc]
theorem own_thereL {w : World} {base : Nat} {e : TypeId} {sz g n c : Nat} {xs : List Value} (h : w.ownsRow base e sz (.slice (some ⟨g, 0, none⟩) n c) n xs) {k : Nat} (hk : k < n) : w.there g (k * sz) sz := by
 rcases h.2 with ⟨_, hn⟩ | ⟨g', cap, cur, hv, hb, hg, hnc, hcm, hcs, ht⟩
 ·omega
 ·injection hv with hA _ hc
  injection hA with hA
  injection hA with hA
  subst hA hc
  have hkm : k * sz + sz ≤ c * sz := by rw [← Nat.succ_mul]; exact Nat.mul_le_mul_right _ (by omega)
  intro j hj
  have hlt : k * sz + j < cur.size := by omega
  refine ⟨?_, frozen_of_row w g _ _ _ hg⟩
  rw [cell_at_heap hg (Array.getElem?_eq_getElem hlt)]; rfl
theorem own_block {w : World} {base : Nat} {e : TypeId} {sz n : Nat} {v : Value} {xs : List Value} (h : w.ownsRow base e sz v n xs) (hn : 0 < n) : ∃ g c, v = .slice (some ⟨g, 0, none⟩) n c ∧ base ≤ g ∧ g < w.heap.size := by
 rcases h.2 with ⟨_, h0⟩ | ⟨g, cap, cur, hv, hb, hg, _⟩
 ·omega
 ·exact ⟨g, cap, hv, hb, lt_of_block hg⟩
theorem below_set {B g : Nat} (hg : B ≤ g) {a : World} : ∀ (vs : List Value) (o : Nat) (w : World), Below B a w → Below B a (w.setCells g o vs)
 | [], _, _, h => h
 | v :: vs, o, w, h => below_set hg vs (o + 1) _ (h.setCell (p := ⟨g, o, none⟩) hg v)
section
variable {ops : Array Oper} {rest : List Oper} {op : Oper} {ac : Act} {w : World} {Q : Exit → Act → World → Prop}
theorem store_law_at (hgd : op.guard = none) (x y : Operand) (ho : op.op = .store 34 x y) {base g n c : Nat} {xs : List LawR} (hown : w.ownsRow base 34 18 (.slice (some ⟨g, 0, none⟩) n c) n (xs.flatMap LawR.cells)) {k : Nat} (hk : k < n) (s : LawR)
  (hx : ac.eval x = .pointer (some ⟨g, k * 18, none⟩)) (hy : ac.eval y = lawV s.l s.a)
  (h : ∀ W, W.ownsRow base 34 18 (.slice (some ⟨g, 0, none⟩) n c) n ((xs.set k s).flatMap LawR.cells) → (∀ B a, B ≤ g → Below B a w → Below B a W) → W.heap.size = w.heap.size → wpList Tryz.prog ops Q rest (ac.put op.dst undef) W) : wpList Tryz.prog ops Q (op :: rest) ac w := by
 refine wpList_store_mid hgd 34 x y ho g (k * 18) (lawCs s.l s.a) hx hy (own_thereL hown hk) (law_size s.l s.a) (law_one s.l s.a) (h _ (own_set LawR.len hown (by decide) hk s) (fun B a hB hb => below_set hB _ _ _ hb) (size_setCells _ _ _ _))
end
theorem nil_eqlL (A : Option Addr) (n c : Nat) (w : World) : (binOp .eql 35 (.slice A n c) (.slice none 0 0)).run Tryz.prog w = .ok (.bool A.isNone) w :=
 Lib.run_eql_slice_nil w _ _ A n c 0 0 Tryz.underlying35
attribute [go_sem] nil_eqlL
theorem cloneLaw_c (A : Option Addr) (n c : Nat) (xs : List LawR) (w : World) (hx : IsLaws w A n c xs) (hb : n ≤ 4096) :
  Calls Tryz.prog 177 #[.slice A n c] w fun e w' => ∃ v, e = .returned v ∧ w'.ownsRow w.heap.size 34 18 v n (xs.flatMap LawR.cells) ∧ Below w.heap.size w w' := by
 have HX := hI hx; clear hx
 cases A with
 | none =>
  have hc0 : c = 0 := HX.out.1.1.2.2.2.1 rfl
  have hn0 : n = 0 := by have := HX.out.1.1.2.1; omega
  subst hc0 hn0
  go_enter Tryz.func177, Tryz.ntmps177
  go_wp2
  go_ret
  obtain rfl : xs = [] := List.eq_nil_of_length_eq_zero HX.out.len
  exact ⟨_, rfl, World.ownsRow_nil _ _ _ _, Below.refl _ _⟩
 | some ad =>
  go_enter Tryz.func177, Tryz.ntmps177
  go_wp2_with (at_builtin; refine append_laws rfl (.tmp 5) (.tmp 6) rfl w.heap.size _ 0 [] rfl (World.ownsRow_made w #[] 0 rr (by simp [maxLen]) rfl) (some ad) n c xs rfl (HX.out.1.below (B := w.heap.size) bel rr) (by omega) (by simp) ?_; intro v1 w1 hown1 hg1 _)
  go_ret
  exact ⟨v1, rfl, (by simpa using hown1), own_below (B := w.heap.size) bel (World.ownsRow_made (e := 34) (size := 18) w #[] 0 rr (by simp [maxLen]) rfl) hg1 rr (by simp)⟩
theorem wp_load_lawM {o : Oper} {a : Act} {w : World} {K : Act → World → Prop} {Q : Exit → Act → World → Prop} (x : Operand) (ho : o.op = .load 34 x) (b off : Nat) (s : LawR) (hx : a.eval x = .pointer (some ⟨b, off, none⟩)) (hr : w.rangeAt b off s.cells)
  (h : K (a.put o.dst (lawV s.l s.a)) w) : o.wp Tryz.prog a w K Q := by
 unfold Oper.wp execOp
 simp only [ho, hx, Instr.loadAt, Instr.sureAddr, Sem.run_bind, Sem.run_pure, Result.andThen_ok, run_load_lawM hr]
 exact h
theorem wp_store_lawM {o : Oper} {a : Act} {w : World} {K : Act → World → Prop} {Q : Exit → Act → World → Prop} (x y : Operand) (ho : o.op = .store 34 x y) {base g n c : Nat} {xs : List LawR} (hown : w.ownsRow base 34 18 (.slice (some ⟨g, 0, none⟩) n c) n (xs.flatMap LawR.cells))
  {k : Nat} (hk : k < n) (s : LawR) (hx : a.eval x = .pointer (some ⟨g, k * 18, none⟩)) (hy : a.eval y = lawV s.l s.a)
  (h : ∀ W, W.ownsRow base 34 18 (.slice (some ⟨g, 0, none⟩) n c) n ((xs.set k s).flatMap LawR.cells) → (∀ B a, B ≤ g → Below B a w → Below B a W) → K (a.put o.dst undef) W) : o.wp Tryz.prog a w K Q :=
 wp_store_mid 34 x y ho g (k * 18) (lawCs s.l s.a) hx hy (own_thereL hown hk) (law_size s.l s.a) (law_one s.l s.a) (h _ (own_set LawR.len hown (by decide) hk s) (fun _ _ hB hb => below_set hB _ _ _ hb))
theorem exchanged_c (A : Option Addr) (n c : Nat) (xs : List LawR) (i : Nat) (w : World) (hx : IsLaws w A n c xs) (hi : i + 1 < n) (hn : n ≤ 4000) :
  Calls Tryz.prog 152 #[.slice A n c, .int .i64 i] w (RetLaws w (exch xs i)) := by
 have hmx := hx.max
 have HX := hI hx; clear hx
 obtain ⟨x, hxi⟩ := HX.out.get (show i < n by omega)
 obtain ⟨y, hyi⟩ := HX.out.get hi
 have HEX := hI (exch_of hxi hyi)
 go_enter Tryz.func152, Tryz.ntmps152
 go_wp2_with fail
 refine (cloneLaw_c A n c xs w HX.out (by omega)).mono ?_
 rintro e w1 ⟨v, rfl, hown, hB1⟩
 obtain ⟨g, c1, rfl, hg, hgl⟩ := own_block hown (by omega)
 have hrec := Recs.of_own hown LawR.len (by decide)
 have hnc := hrec.1.2.1
 have hcm := hrec.1.2.2.1
 unfold maxLen at hcm
 have HRX : Hid (w1.drew.rangeAt g (i * 18) x.cells) := fun j u hu => by
  obtain ⟨b, off, he, _, hc⟩ := hrec.at_ LawR.len (by decide) hxi
  obtain ⟨rfl, rfl⟩ : g = b ∧ 0 = off := by simpa using he
  have := hc j u hu
  rw [Nat.zero_add] at this
  exact this
 have HRY : Hid (w1.drew.rangeAt g ((i + 1) * 18) y.cells) := fun j u hu => by
  obtain ⟨b, off, he, _, hc⟩ := hrec.at_ LawR.len (by decide) hyi
  obtain ⟨rfl, rfl⟩ : g = b ∧ 0 = off := by simpa using he
  have := hc j u hu
  rw [Nat.zero_add] at this
  exact this
 have HOWN : Hid (w1.drew.ownsRow w.heap.size 34 18 (.slice (some ⟨g, 0, none⟩) n c1) n (xs.flatMap LawR.cells)) := own_heap hown fun _ _ => rfl
 have HBD : Hid (Below w.heap.size w w1.drew) := hB1.drew
 clear hown hrec hB1 hxi hyi
 have hi1 : (i : Int) < (n : Int) := by omega
 have hi2 : (i : Int) + 1 < (n : Int) := by omega
 have hiw : IntKind.i64.wrap ((i : Int) + 1) = (i : Int) + 1 := IntWalk.i64_in _ (by omega)
 have hi0 : (0 : Int) ≤ (i : Int) + 1 := by omega
 have hin : ((i : Int) + 1).toNat = i + 1 := by omega
 go_wp2
 refine plain_region (fun _ => True) (by kernel_rfl) trivial (fun hHeld => ?_)
 clear hHeld
 (refine' anyT_takeF (i := 0) (v := _) rfl (by kernel_rfl) (by kernel_rfl) (by kernel_rfl) (fun _ _ _ h => h) (Or.inl ⟨by rfl, fun w' hSw => by go_simp; (try with_reducible rfl)⟩) ?_; (try simp only [Act.put, nA, nB, nC, nD, nE, nF])); (refine' anyT_takeF (i := 1) (v := _) rfl (by kernel_rfl) (by kernel_rfl) (by kernel_rfl) (fun _ _ _ h => h) (Or.inl ⟨by rfl, fun w' hSw => by go_simp; (try with_reducible rfl)⟩) ?_; (try simp only [Act.put, nA, nB, nC, nD, nE, nF])); (refine' anyT_takeF (i := 2) (v := _) rfl (by kernel_rfl) (by kernel_rfl) (by kernel_rfl) (fun _ _ _ h => h) (Or.inl ⟨by rfl, fun w' hSw => by go_simp; (try with_reducible rfl)⟩) ?_; (try simp only [Act.put, nA, nB, nC, nD, nE, nF])); (refine' anyT_takeF (i := 3) (v := _) rfl (by kernel_rfl) (by kernel_rfl) (by kernel_rfl) (fun _ _ _ h => h) (Or.inl ⟨by rfl, fun w' hSw => by go_simp; (try with_reducible rfl)⟩) ?_; (try simp only [Act.put, nA, nB, nC, nD, nE, nF])); (refine' anyT_takeF (i := 4) (v := _) rfl (by kernel_rfl) (by kernel_rfl) (by kernel_rfl) (fun _ _ _ h => h) (Or.inl ⟨by rfl, fun w' hSw => by go_simp; (try with_reducible rfl)⟩) ?_; (try simp only [Act.put, nA, nB, nC, nD, nE, nF])); (refine' anyT_takeF (i := 5) (v := _) rfl (by kernel_rfl) (by kernel_rfl) (by kernel_rfl) (fun _ _ _ h => h) (Or.inl ⟨by rfl, fun w' hSw => by go_simp; (try with_reducible rfl)⟩) ?_; (try simp only [Act.put, nA, nB, nC, nD, nE, nF])); (refine' anyT_takeF (i := 6) (v := _) rfl (by kernel_rfl) (by kernel_rfl) (by kernel_rfl) (fun _ _ _ h => h) (Or.inl ⟨by rfl, fun w' hSw => by go_simp; (try with_reducible rfl)⟩) ?_; (try simp only [Act.put, nA, nB, nC, nD, nE, nF])); (refine' anyT_takeF (i := 7) (v := _) rfl (by kernel_rfl) (by kernel_rfl) (by kernel_rfl) (fun _ _ _ h => h) (Or.inl ⟨by rfl, fun w' hSw => by go_simp; (try with_reducible rfl)⟩) ?_; (try simp only [Act.put, nA, nB, nC, nD, nE, nF])); (refine' anyT_takeF (i := 8) (v := _) rfl (by kernel_rfl) (by kernel_rfl) (by kernel_rfl) (fun _ _ _ h => h) (Or.inl ⟨by rfl, fun w' hSw => by go_simp; (try with_reducible rfl)⟩) ?_; (try simp only [Act.put, nA, nB, nC, nD, nE, nF])); (refine' anyT_takeF (i := 10) (v := _) rfl (by kernel_rfl) (by kernel_rfl) (by kernel_rfl) (fun _ _ _ h => h) (Or.inl ⟨by rfl, fun w' hSw => by go_simp; (try with_reducible rfl)⟩) ?_; (try simp only [Act.put, nA, nB, nC, nD, nE, nF])); (refine' anyT_takeF (i := 11) (v := _) rfl (by kernel_rfl) (by kernel_rfl) (by kernel_rfl) (fun _ _ _ h => h) (Or.inl ⟨by rfl, fun w' hSw => by go_simp; (try with_reducible rfl)⟩) ?_; (try simp only [Act.put, nA, nB, nC, nD, nE, nF])); (refine' anyT_takeF (i := 12) (v := _) rfl (by kernel_rfl) (by kernel_rfl) (by kernel_rfl) (fun _ _ _ h => h) (Or.inl ⟨by rfl, fun w' hSw => by go_simp; (try with_reducible rfl)⟩) ?_; (try simp only [Act.put, nA, nB, nC, nD, nE, nF]))
 refine anyT_two (i := 9) (j := 13) (by kernel_rfl) rfl rfl (fun K' hK' => ?_) (fun K' hK' => ?_)
 all_goals rw [if_pos (by rfl)]
 ·refine wp_load_lawM (.tmp 16) rfl g ((i + 1) * 18) y rfl HRY.out ?_
  refine hK' _ _ ⟨.inr trivial, fun _ => ?_⟩
  clear hK' K'
  (try simp only [Act.put, nA, nB, nC, nD, nE, nF])
  refine anyT_step (i := 13) (by kernel_rfl) rfl (fun K' hK' => ?_)
  rw [if_pos (by rfl)]
  refine wp_load_lawM (.tmp 20) rfl g (i * 18) x rfl HRX.out ?_
  refine hK' _ _ ⟨.inr trivial, fun _ => ?_⟩
  clear hK' K'
  (try simp only [Act.put, nA, nB, nC, nD, nE, nF])
  (refine anyT_step (i := 14) (by kernel_rfl) rfl (fun K' hK' => ?_); simp only [List.getElem_toArray, List.getElem_cons_zero, List.getElem_cons_succ]; go_simp)
  refine hK' _ _ ⟨.inr trivial, fun _ => ?_⟩
  clear hK' K'
  (try simp only [Act.put, nA, nB, nC, nD, nE, nF])
  refine anyT_step (i := 15) (by kernel_rfl) rfl (fun K' hK' => ?_)
  rw [if_pos (by rfl)]
  refine wp_store_lawM (.tmp 22) (.tmp 17) rfl HOWN.out (k := i) (by omega) y rfl rfl (fun W3 hown3 hB3 => ?_)
  have HOWN3 := hI hown3; clear hown3
  have HB3 := hI (hB3 w.heap.size w hg HBD.out); clear hB3
  refine hK' _ _ ⟨.inr trivial, fun _ => ?_⟩
  clear hK' K'
  (try simp only [Act.put, nA, nB, nC, nD, nE, nF])
  (refine anyT_step (i := 16) (by kernel_rfl) rfl (fun K' hK' => ?_); simp only [List.getElem_toArray, List.getElem_cons_zero, List.getElem_cons_succ]; go_simp)
  refine hK' _ _ ⟨.inr trivial, fun _ => ?_⟩
  clear hK' K'
  (try simp only [Act.put, nA, nB, nC, nD, nE, nF])
  refine anyT_step (i := 17) (by kernel_rfl) rfl (fun K' hK' => ?_)
  rw [if_pos (by rfl)]
  refine wp_store_lawM (.tmp 23) (.tmp 21) rfl HOWN3.out (k := i + 1) (by omega) x rfl rfl (fun W4 hown4 hB4 => ?_)
  have HOWN4 := hI hown4; clear hown4
  have HB4 := hI (hB4 w.heap.size w hg HB3.out); clear hB4
  refine hK' _ _ ⟨.inl (by kernel_rfl), fun _ => anyT_done (by kernel_rfl) ?_ _⟩
  clear hK' K'
  go_wp2
  go_ret
  exact RetLaws.of_own rfl (by rw [HEX.out]; exact HOWN4.out) (fun s hs => (HX.out.2 s (exch_mem hs)).below HB4.out rr) HB4.out rr
 ·refine wp_load_lawM (.tmp 20) rfl g (i * 18) x rfl HRX.out ?_
  refine hK' _ _ ⟨.inr trivial, fun _ => ?_⟩
  clear hK' K'
  (try simp only [Act.put, nA, nB, nC, nD, nE, nF])
  refine anyT_step (i := 9) (by kernel_rfl) rfl (fun K' hK' => ?_)
  rw [if_pos (by rfl)]
  refine wp_load_lawM (.tmp 16) rfl g ((i + 1) * 18) y rfl HRY.out ?_
  refine hK' _ _ ⟨.inr trivial, fun _ => ?_⟩
  clear hK' K'
  (try simp only [Act.put, nA, nB, nC, nD, nE, nF])
  (refine anyT_step (i := 14) (by kernel_rfl) rfl (fun K' hK' => ?_); simp only [List.getElem_toArray, List.getElem_cons_zero, List.getElem_cons_succ]; go_simp)
  refine hK' _ _ ⟨.inr trivial, fun _ => ?_⟩
  clear hK' K'
  (try simp only [Act.put, nA, nB, nC, nD, nE, nF])
  refine anyT_step (i := 15) (by kernel_rfl) rfl (fun K' hK' => ?_)
  rw [if_pos (by rfl)]
  refine wp_store_lawM (.tmp 22) (.tmp 17) rfl HOWN.out (k := i) (by omega) y rfl rfl (fun W3 hown3 hB3 => ?_)
  have HOWN3 := hI hown3; clear hown3
  have HB3 := hI (hB3 w.heap.size w hg HBD.out); clear hB3
  refine hK' _ _ ⟨.inr trivial, fun _ => ?_⟩
  clear hK' K'
  (try simp only [Act.put, nA, nB, nC, nD, nE, nF])
  (refine anyT_step (i := 16) (by kernel_rfl) rfl (fun K' hK' => ?_); simp only [List.getElem_toArray, List.getElem_cons_zero, List.getElem_cons_succ]; go_simp)
  refine hK' _ _ ⟨.inr trivial, fun _ => ?_⟩
  clear hK' K'
  (try simp only [Act.put, nA, nB, nC, nD, nE, nF])
  refine anyT_step (i := 17) (by kernel_rfl) rfl (fun K' hK' => ?_)
  rw [if_pos (by rfl)]
  refine wp_store_lawM (.tmp 23) (.tmp 21) rfl HOWN3.out (k := i + 1) (by omega) x rfl rfl (fun W4 hown4 hB4 => ?_)
  have HOWN4 := hI hown4; clear hown4
  have HB4 := hI (hB4 w.heap.size w hg HB3.out); clear hB4
  refine hK' _ _ ⟨.inl (by kernel_rfl), fun _ => anyT_done (by kernel_rfl) ?_ _⟩
  clear hK' K'
  go_wp2
  go_ret
  exact RetLaws.of_own rfl (by rw [HEX.out]; exact HOWN4.out) (fun s hs => (HX.out.2 s (exch_mem hs)).below HB4.out rr) HB4.out rr
end Go.Proofs.YtcpcojgmmpnkoaaGreatDoor

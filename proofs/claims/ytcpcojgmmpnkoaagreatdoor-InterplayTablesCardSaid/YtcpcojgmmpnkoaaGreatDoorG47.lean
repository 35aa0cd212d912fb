/-
  ablautref12.four, Relation.
  ablautref12.Relation.
  ablautref12: Feeds, Bleeds, Commute.
-/
import Derived.Test.YtcpcojgmmpnkoaaGreatDoorG27
import Derived.Test.YtcpcojgmmpnkoaaGreatDoorG28
import Derived.Test.YtcpcojgmmpnkoaaGreatDoorG41
import Derived.Test.YtcpcojgmmpnkoaaGreatDoorG15
import Derived.Test.YtcpcojgmmpnkoaaGreatDoorXBld12
set_option linter.unusedVariables false
set_option linter.unusedSimpArgs false
set_option maxRecDepth 100000
set_option maxHeartbeats 4000000
namespace Go.Proofs.YtcpcojgmmpnkoaaGreatDoor
open Go.RowKit Go.Shelf
def fourV (v0 v1 v2 v3 : Value) : Value := .agg #[v0, v1, v2, v3]
def RetFour (w : World) (a b : LawD) (ws : List Snd) (e : Ending) (w' : World) : Prop :=
 ((∃ er, e = .returned (.tuple #[fourV (.slice none 0 0) (.slice none 0 0) (.slice none 0 0) (.slice none 0 0), .int .i64 er]) ∧ er ≠ 0 ∧ relM a b ws = (0, er)) ∨
  (∃ A0 n0 c0 A1 n1 c1 A2 n2 c2 A3 n3 c3, e = .returned (.tuple #[fourV (.slice A0 n0 c0) (.slice A1 n1 c1) (.slice A2 n2 c2) (.slice A3 n3 c3), .int .i64 0]) ∧ lawE a = 0 ∧ lawE b = 0 ∧ FourOK a b ws ∧
   IsWord w' A0 n0 c0 (applyM a ws).2 ∧ IsWord w' A1 n1 c1 (applyM b ws).2 ∧ IsWord w' A2 n2 c2 (applyM b (applyM a ws).2).2 ∧ IsWord w' A3 n3 c3 (applyM a (applyM b ws).2).2)) ∧ Below w.heap.size w w'
theorem results_four {fn : Func} {p q : Tmp} (h : fn.results = #[.cell p 140, .tmp q]) (tmps : Array Value) (w : World) (b : Nat) (v0 v1 v2 v3 v : Value)
  (hp : tmps.getD p undef = .pointer (some ⟨b, 0, none⟩)) (hq : tmps.getD q undef = v)
  (h0 : w.cell? ⟨b, 0, none⟩ = some v0) (h1 : w.cell? ⟨b, 1, none⟩ = some v1) (h2 : w.cell? ⟨b, 2, none⟩ = some v2) (h3 : w.cell? ⟨b, 3, none⟩ = some v3) :
  (results fn tmps).run Tryz.prog w = .ok (.tuple #[fourV v0 v1 v2 v3, v]) w := by
 have hp' : tmps[p]?.getD undef = .pointer (some ⟨b, 0, none⟩) := by simpa using hp
 have hq' : tmps[q]?.getD undef = v := by simpa using hq
 simp [results, h, hp', hq', asAddr, go_sem, h0, h1, h2, h3, fourV]
theorem four_size (v0 v1 v2 v3 : Value) : (Tryz.prog.info? 140).map (·.size) = some (#[v0, v1, v2, v3] : Array Value).size := by kernel_rfl
theorem store_four {ops : Array Oper} {rest : List Oper} {op : Oper} {ac : Act} {w : World} {Q : Exit → Act → World → Prop} (hgd : op.guard = none) (x y : Operand) (ho : op.op = .store 140 x y)
  (b : Nat) (v0 v1 v2 v3 : Value) (hx : ac.eval x = .pointer (some ⟨b, 0, none⟩)) (hy : ac.eval y = .agg #[v0, v1, v2, v3]) (h1 : (#[v0, v1, v2, v3] : Array Value).all (·.oneCell') = true) {old : Array Value} {t : TypeId} (hr : w.heap[b]? = some (.cells old t (0, 0))) (hs : old.size = 4)
  (h : ∀ W, W.heap[b]? = some (.cells #[v0, v1, v2, v3] t (0, 0)) → Keep (fun k => k = b) w W → W.heap.size = w.heap.size → wpList Tryz.prog ops Q rest (ac.put op.dst undef) W) : wpList Tryz.prog ops Q (op :: rest) ac w := by
 have h' := h (w.setRow b #[v0, v1, v2, v3]) (setRow_heap w b old _ t _ hr) ⟨rfl, rfl, rfl, by simp [World.setRow], fun k _ hk => setRow_other w b k _ hk⟩ (by simp [World.setRow])
 exact wpList_store_row hgd 140 x y ho b #[v0, v1, v2, v3] hx hy t old hr (four_size _ _ _ _) (by rw [hs]; rfl) h1 h'
theorem four_ret {w W W' : World} {bA bB : Nat} {la lb : LawD} {aa ab : LawA} {g : Nat} (hs : RelSt w bA bB la aa lb ab W) (hg : w.heap.size ≤ g) (hk : Keep (fun k => k = g) W W') : Below w.heap.size w W' := hs.b.trans (hk.to_below (fun k e => by omega) hs.b.size)
theorem r12four_c (la : LawD) (aa : LawA) (lb : LawD) (ab : LawA) (A : Option Addr) (n c : Nat) (ws : List Snd) (w : World) (hla : LawAt w la aa) (hlb : LawAt w lb ab) (hw : IsWord w A n c ws) (hua : LawU la) (hub : LawU lb) (hwu : WordU ws) :
  Calls Tryz.prog 92 #[lawV la aa, lawV lb ab, .slice A n c] w (RetFour w la lb ws) := by
 have HLA := hI hla; clear hla
 have HLB := hI hlb; clear hlb
 have HW := hI hw; clear hw
 have HUA := hI hua; clear hua
 have HUB := hI hub; clear hub
 have HWU := hI hwu; clear hwu
 obtain ⟨W1, hW1, hr1, hl1, hB1, hz1⟩ := law_box w la aa
 obtain ⟨W2, hW2, hr2, hl2, hB2, hz2⟩ := law_box W1 lb ab
 have hS2 : RelSt w w.heap.size W1.heap.size la aa lb ab W2 := ⟨hB1.trans (hB2.mono hB1.size), (hB2.block _ hl1).trans hr1, hr2⟩
 obtain ⟨W3, hW3⟩ : ∃ W3, W2.alloc (.cells #[.slice none 0 0, .slice none 0 0, .slice none 0 0, .slice none 0 0] 140) = W3 := ⟨_, rfl⟩
 have HF3 : Hid (W3.heap[W2.heap.size]? = some (.cells #[.slice none 0 0, .slice none 0 0, .slice none 0 0, .slice none 0 0] 140 (0, 0))) := by show _ = _; rw [← hW3]; exact heap_new_at rfl
 have hB3 : Below W2.heap.size W2 W3 := by rw [← hW3]; exact (Below.refl _ _).alloc rr _
 have HS3 := hI (hS2.below hB3)
 have hg2 : w.heap.size ≤ W2.heap.size := hS2.b.size
 clear hr1 hr2 hB1 hB2 hS2 hB3
 go_enter Tryz.func92, Tryz.ntmps92
 go_wp2_with (first | (refine load_law rfl (.tmp 3) rfl w.heap.size la aa rfl HS3.out.hA ?_) | (refine load_law rfl (.tmp 4) rfl W1.heap.size lb ab rfl HS3.out.hB ?_))
 refine (r8Check_c la aa W3 (HLA.out.below HS3.out.b rr) HUA.out).mono ?_
 rintro e w4 ⟨rfl, hb4⟩
 have HS4 := hI (HS3.out.below hb4)
 have HF4 := hI ((hb4.block _ (lt_of_block HF3.out)).trans HF3.out)
 clear hb4 HS3 HF3 hW1 hW2 hW3
 obtain ⟨ea, hea⟩ : ∃ ea, ea = lawE la := ⟨_, rfl⟩
 rw [← hea]
 by_cases h0 : ea = 0
 case neg =>
  have h1 : (ea != 0) = true := by simpa using h0
  have HM : Hid (relM la lb ws = (0, 17)) := rel_law (.inl (by rw [← hea]; exact h0))
  clear h0 hea
  go_wp2_with (refine store_four rfl (.tmp 6) (.tmp 21) rfl W2.heap.size (.slice none 0 0) (.slice none 0 0) (.slice none 0 0) (.slice none 0 0) rfl rfl (by simp [Value.oneCell']) HF4.out rfl ?hs)
  case hs =>
   intro W9 g1 g2 g3
   go_wp2
   refine bodyPost_ret (results_four Tryz.results92 _ _ W2.heap.size _ _ _ _ _ rfl rfl (cell_at_heap (j := 0) g1 rfl) (cell_at_heap (j := 1) g1 rfl) (cell_at_heap (j := 2) g1 rfl) (cell_at_heap (j := 3) g1 rfl)) rfl ?_
   exact ⟨.inl ⟨17, rfl, by first | decide | exact HE.out, HM.out⟩, four_ret HS4.out hg2 g2⟩
 have h1 : (ea != 0) = false := by simpa using h0
 have HLA0 : Hid (lawE la = 0) := by show _ = _; rw [← hea]; exact h0
 clear h0 hea
 go_wp2_with (first | (refine load_law rfl (.tmp 3) rfl w.heap.size la aa rfl HS4.out.hA ?_) | (refine load_law_w (by simp [Region.wanted, yielded, h1]) (.tmp 4) rfl W1.heap.size lb ab rfl HS4.out.hB ?_))
 refine (r8Check_c lb ab w4 (HLB.out.below HS4.out.b rr) HUB.out).mono ?_
 rintro e w5 ⟨rfl, hb5⟩
 have HS5 := hI (HS4.out.below hb5)
 have HF5 := hI ((hb5.block _ (lt_of_block HF4.out)).trans HF4.out)
 clear hb5 HS4 HF4
 obtain ⟨eb, heb⟩ : ∃ eb, eb = lawE lb := ⟨_, rfl⟩
 rw [← heb]
 by_cases h0 : eb = 0
 case neg =>
  have h2 : (eb != 0) = true := by simpa using h0
  have HM : Hid (relM la lb ws = (0, 17)) := rel_law (.inr (by rw [← heb]; exact h0))
  clear h0 heb
  go_wp2_with (refine store_four rfl (.tmp 6) (.tmp 21) rfl W2.heap.size (.slice none 0 0) (.slice none 0 0) (.slice none 0 0) (.slice none 0 0) rfl rfl (by simp [Value.oneCell']) HF5.out rfl ?hs)
  case hs =>
   intro W9 g1 g2 g3
   go_wp2
   refine bodyPost_ret (results_four Tryz.results92 _ _ W2.heap.size _ _ _ _ _ rfl rfl (cell_at_heap (j := 0) g1 rfl) (cell_at_heap (j := 1) g1 rfl) (cell_at_heap (j := 2) g1 rfl) (cell_at_heap (j := 3) g1 rfl)) rfl ?_
   exact ⟨.inl ⟨17, rfl, by first | decide | exact HE.out, HM.out⟩, four_ret HS5.out hg2 g2⟩
 have h2 : (eb != 0) = false := by simpa using h0
 have HLB0 : Hid (lawE lb = 0) := by show _ = _; rw [← heb]; exact h0
 clear h0 heb
 go_wp2_with fail
 refine (r2Check_c A n c ws w5 (HW.out.below HS5.out.b rr) HWU.out).mono ?_
 rintro e w6 ⟨rfl, hb6⟩
 have HS6 := hI (HS5.out.below hb6)
 have HF6 := hI ((hb6.block _ (lt_of_block HF5.out)).trans HF5.out)
 clear hb6 HS5 HF5
 obtain ⟨ew, hew⟩ : ∃ ew, ew = wcheck ws := ⟨_, rfl⟩
 rw [← hew]
 by_cases h0 : ew = 0
 case neg =>
  have h3 : (ew != 0) = true := by simpa using h0
  have HE : Hid (ew ≠ 0) := h0
  have HM : Hid (relM la lb ws = (0, ew)) := by show _ = _; rw [hew]; exact rel_word HLA0.out HLB0.out (by rw [← hew]; exact h0)
  clear h0 hew
  go_wp2_with (refine store_four rfl (.tmp 6) (.tmp 26) rfl W2.heap.size (.slice none 0 0) (.slice none 0 0) (.slice none 0 0) (.slice none 0 0) rfl rfl (by simp [Value.oneCell']) HF6.out rfl ?hs)
  case hs =>
   intro W9 g1 g2 g3
   go_wp2
   refine bodyPost_ret (results_four Tryz.results92 _ _ W2.heap.size _ _ _ _ _ rfl rfl (cell_at_heap (j := 0) g1 rfl) (cell_at_heap (j := 1) g1 rfl) (cell_at_heap (j := 2) g1 rfl) (cell_at_heap (j := 3) g1 rfl)) rfl ?_
   exact ⟨.inl ⟨ew, rfl, by first | decide | exact HE.out, HM.out⟩, four_ret HS6.out hg2 g2⟩
 have h3 : (ew != 0) = false := by simpa using h0
 have HWC : Hid (wcheck ws = 0) := by show _ = _; rw [← hew]; exact h0
 clear h0 hew
 go_wp2_with (first | (refine load_law rfl (.tmp 3) rfl w.heap.size la aa rfl HS6.out.hA ?_) | (refine load_law rfl (.tmp 4) rfl W1.heap.size lb ab rfl HS6.out.hB ?_))
 refine (r8Apply_c la aa A n c ws w6 (HLA.out.below HS6.out.b rr) (HW.out.below HS6.out.b rr) HUA.out HWU.out).mono ?_
 obtain ⟨r1, hr1⟩ : ∃ r, r = applyM la ws := ⟨_, rfl⟩
 rw [← hr1]
 rintro e w7 ⟨B1, m1, d1, rfl, hw1, hb, hfr⟩
 have HG1 : Hid (∀ ad, B1 = some ad → W2.heap.size < ad.block) := fun ad h => Nat.lt_of_lt_of_le (lt_of_block HF6.out) (hfr ad h)
 clear hfr
 have HS7 := hI (HS6.out.below hb)
 have HF7 := hI ((hb.block _ (lt_of_block HF6.out)).trans HF6.out)
 have HQ17 : Hid (IsWord w7 B1 m1 d1 r1.2) := hw1
 have HR1 := hI hr1
 clear hb hw1 hr1 HS6 HF6
 by_cases h0 : r1.1 = 0
 case neg =>
  have h4 : (r1.1 != 0) = true := by simpa using h0
  have HE : Hid (r1.1 ≠ 0) := h0
  have HM : Hid (relM la lb ws = (0, r1.1)) := by show _ = _; unfold relM; rw [if_neg (by simp [HLA0.out, HLB0.out])]; rw [← HR1.out, if_pos h0]
  clear h0
  go_wp2_with (refine store_four rfl (.tmp 6) (.tmp 36) rfl W2.heap.size (.slice none 0 0) (.slice none 0 0) (.slice none 0 0) (.slice none 0 0) rfl rfl (by simp [Value.oneCell']) HF7.out rfl ?hs)
  case hs =>
   intro W9 g1 g2 g3
   go_wp2
   refine bodyPost_ret (results_four Tryz.results92 _ _ W2.heap.size _ _ _ _ _ rfl rfl (cell_at_heap (j := 0) g1 rfl) (cell_at_heap (j := 1) g1 rfl) (cell_at_heap (j := 2) g1 rfl) (cell_at_heap (j := 3) g1 rfl)) rfl ?_
   exact ⟨.inl ⟨r1.1, rfl, by first | decide | exact HE.out, HM.out⟩, four_ret HS7.out hg2 g2⟩
 have h41 : (r1.1 != 0) = false := by simpa using h0
 have HZ1 : Hid (r1.1 = 0) := h0
 clear h0
 go_wp2_with (first | (refine load_law rfl (.tmp 3) rfl w.heap.size la aa rfl HS7.out.hA ?_) | (refine load_law rfl (.tmp 4) rfl W1.heap.size lb ab rfl HS7.out.hB ?_))
 refine (r8Apply_c lb ab A n c ws w7 (HLB.out.below HS7.out.b rr) (HW.out.below HS7.out.b rr) HUB.out HWU.out).mono ?_
 obtain ⟨r2, hr2⟩ : ∃ r, r = applyM lb ws := ⟨_, rfl⟩
 rw [← hr2]
 rintro e w8 ⟨B2, m2, d2, rfl, hw2, hb, hfr⟩
 have HG2 : Hid (∀ ad, B2 = some ad → W2.heap.size < ad.block) := fun ad h => Nat.lt_of_lt_of_le (lt_of_block HF7.out) (hfr ad h)
 clear hfr
 have HS8 := hI (HS7.out.below hb)
 have HF8 := hI ((hb.block _ (lt_of_block HF7.out)).trans HF7.out)
 have HQ18 := hI (HQ17.out.below hb rr)
 have HQ28 : Hid (IsWord w8 B2 m2 d2 r2.2) := hw2
 have HR2 := hI hr2
 clear hb hw2 hr2 HS7 HF7
 by_cases h0 : r2.1 = 0
 case neg =>
  have h4 : (r2.1 != 0) = true := by simpa using h0
  have HE : Hid (r2.1 ≠ 0) := h0
  have HM : Hid (relM la lb ws = (0, r2.1)) := by show _ = _; unfold relM; rw [if_neg (by simp [HLA0.out, HLB0.out])]; rw [← HR1.out, if_neg (by simpa using HZ1.out), ← HR2.out, if_pos h0]
  clear h0
  go_wp2_with (refine store_four rfl (.tmp 6) (.tmp 46) rfl W2.heap.size (.slice none 0 0) (.slice none 0 0) (.slice none 0 0) (.slice none 0 0) rfl rfl (by simp [Value.oneCell']) HF8.out rfl ?hs)
  case hs =>
   intro W9 g1 g2 g3
   go_wp2
   refine bodyPost_ret (results_four Tryz.results92 _ _ W2.heap.size _ _ _ _ _ rfl rfl (cell_at_heap (j := 0) g1 rfl) (cell_at_heap (j := 1) g1 rfl) (cell_at_heap (j := 2) g1 rfl) (cell_at_heap (j := 3) g1 rfl)) rfl ?_
   exact ⟨.inl ⟨r2.1, rfl, by first | decide | exact HE.out, HM.out⟩, four_ret HS8.out hg2 g2⟩
 have h42 : (r2.1 != 0) = false := by simpa using h0
 have HZ2 : Hid (r2.1 = 0) := h0
 clear h0
 go_wp2_with (first | (refine load_law rfl (.tmp 3) rfl w.heap.size la aa rfl HS8.out.hA ?_) | (refine load_law rfl (.tmp 4) rfl W1.heap.size lb ab rfl HS8.out.hB ?_))
 refine (r8Apply_c lb ab B1 m1 d1 r1.2 w8 (HLB.out.below HS8.out.b rr) (HQ18.out) HUB.out (by rw [HR1.out]; exact applyM_u HWU.out)).mono ?_
 obtain ⟨r3, hr3⟩ : ∃ r, r = applyM lb r1.2 := ⟨_, rfl⟩
 rw [← hr3]
 rintro e w9 ⟨B3, m3, d3, rfl, hw3, hb, hfr⟩
 have HG3 : Hid (∀ ad, B3 = some ad → W2.heap.size < ad.block) := fun ad h => Nat.lt_of_lt_of_le (lt_of_block HF8.out) (hfr ad h)
 clear hfr
 have HS9 := hI (HS8.out.below hb)
 have HF9 := hI ((hb.block _ (lt_of_block HF8.out)).trans HF8.out)
 have HQ19 := hI (HQ18.out.below hb rr)
 have HQ29 := hI (HQ28.out.below hb rr)
 have HQ39 : Hid (IsWord w9 B3 m3 d3 r3.2) := hw3
 have HR3 := hI hr3
 clear hb hw3 hr3 HS8 HF8
 by_cases h0 : r3.1 = 0
 case neg =>
  have h4 : (r3.1 != 0) = true := by simpa using h0
  have HE : Hid (r3.1 ≠ 0) := h0
  have HM : Hid (relM la lb ws = (0, r3.1)) := by show _ = _; unfold relM; rw [if_neg (by simp [HLA0.out, HLB0.out])]; rw [← HR1.out, if_neg (by simpa using HZ1.out), ← HR2.out, if_neg (by simpa using HZ2.out), ← HR3.out, if_pos h0]
  clear h0
  go_wp2_with (refine store_four rfl (.tmp 6) (.tmp 56) rfl W2.heap.size (.slice none 0 0) (.slice none 0 0) (.slice none 0 0) (.slice none 0 0) rfl rfl (by simp [Value.oneCell']) HF9.out rfl ?hs)
  case hs =>
   intro W9 g1 g2 g3
   go_wp2
   refine bodyPost_ret (results_four Tryz.results92 _ _ W2.heap.size _ _ _ _ _ rfl rfl (cell_at_heap (j := 0) g1 rfl) (cell_at_heap (j := 1) g1 rfl) (cell_at_heap (j := 2) g1 rfl) (cell_at_heap (j := 3) g1 rfl)) rfl ?_
   exact ⟨.inl ⟨r3.1, rfl, by first | decide | exact HE.out, HM.out⟩, four_ret HS9.out hg2 g2⟩
 have h43 : (r3.1 != 0) = false := by simpa using h0
 have HZ3 : Hid (r3.1 = 0) := h0
 clear h0
 go_wp2_with (first | (refine load_law rfl (.tmp 3) rfl w.heap.size la aa rfl HS9.out.hA ?_) | (refine load_law rfl (.tmp 4) rfl W1.heap.size lb ab rfl HS9.out.hB ?_))
 refine (r8Apply_c la aa B2 m2 d2 r2.2 w9 (HLA.out.below HS9.out.b rr) (HQ29.out) HUA.out (by rw [HR2.out]; exact applyM_u HWU.out)).mono ?_
 obtain ⟨r4, hr4⟩ : ∃ r, r = applyM la r2.2 := ⟨_, rfl⟩
 rw [← hr4]
 rintro e w10 ⟨B4, m4, d4, rfl, hw4, hb, hfr⟩
 have HG4 : Hid (∀ ad, B4 = some ad → W2.heap.size < ad.block) := fun ad h => Nat.lt_of_lt_of_le (lt_of_block HF9.out) (hfr ad h)
 clear hfr
 have HS10 := hI (HS9.out.below hb)
 have HF10 := hI ((hb.block _ (lt_of_block HF9.out)).trans HF9.out)
 have HQ110 := hI (HQ19.out.below hb rr)
 have HQ210 := hI (HQ29.out.below hb rr)
 have HQ310 := hI (HQ39.out.below hb rr)
 have HQ410 : Hid (IsWord w10 B4 m4 d4 r4.2) := hw4
 have HR4 := hI hr4
 clear hb hw4 hr4 HS9 HF9
 by_cases h0 : r4.1 = 0
 case neg =>
  have h4 : (r4.1 != 0) = true := by simpa using h0
  have HE : Hid (r4.1 ≠ 0) := h0
  have HM : Hid (relM la lb ws = (0, r4.1)) := by show _ = _; unfold relM; rw [if_neg (by simp [HLA0.out, HLB0.out])]; rw [← HR1.out, if_neg (by simpa using HZ1.out), ← HR2.out, if_neg (by simpa using HZ2.out), ← HR3.out, if_neg (by simpa using HZ3.out), ← HR4.out, if_pos h0]
  clear h0
  go_wp2_with (refine store_four rfl (.tmp 6) (.tmp 66) rfl W2.heap.size (.slice none 0 0) (.slice none 0 0) (.slice none 0 0) (.slice none 0 0) rfl rfl (by simp [Value.oneCell']) HF10.out rfl ?hs)
  case hs =>
   intro W9 g1 g2 g3
   go_wp2
   refine bodyPost_ret (results_four Tryz.results92 _ _ W2.heap.size _ _ _ _ _ rfl rfl (cell_at_heap (j := 0) g1 rfl) (cell_at_heap (j := 1) g1 rfl) (cell_at_heap (j := 2) g1 rfl) (cell_at_heap (j := 3) g1 rfl)) rfl ?_
   exact ⟨.inl ⟨r4.1, rfl, by first | decide | exact HE.out, HM.out⟩, four_ret HS10.out hg2 g2⟩
 have h44 : (r4.1 != 0) = false := by simpa using h0
 have HZ4 : Hid (r4.1 = 0) := h0
 clear h0
 have HOK : Hid (FourOK la lb ws) := ⟨by rw [← HR1.out]; exact HZ1.out, by rw [← HR2.out]; exact HZ2.out, by rw [← HR1.out, ← HR3.out]; exact HZ3.out, by rw [← HR2.out, ← HR4.out]; exact HZ4.out⟩
 go_wp2_with (refine store_four rfl (.tmp 6) (.tmp 72) rfl W2.heap.size (.slice B1 m1 d1) (.slice B2 m2 d2) (.slice B3 m3 d3) (.slice B4 m4 d4) rfl rfl (by simp [Value.oneCell']) HF10.out rfl ?hs)
 case hs =>
  intro W9 g1 g2 g3
  go_wp2
  refine bodyPost_ret (results_four Tryz.results92 _ _ W2.heap.size _ _ _ _ _ rfl rfl (cell_at_heap (j := 0) g1 rfl) (cell_at_heap (j := 1) g1 rfl) (cell_at_heap (j := 2) g1 rfl) (cell_at_heap (j := 3) g1 rfl)) rfl ?_
  exact ⟨.inr ⟨_, _, _, _, _, _, _, _, _, _, _, _, rfl, HLA0.out, HLB0.out, HOK.out, by rw [← HR1.out]; exact word_keepb HQ110.out g2 HG1.out, by rw [← HR2.out]; exact word_keepb HQ210.out g2 HG2.out,
   by rw [← HR1.out, ← HR3.out]; exact word_keepb HQ310.out g2 HG3.out, by rw [← HR2.out, ← HR4.out]; exact word_keepb HQ410.out g2 HG4.out⟩, four_ret HS10.out hg2 g2⟩
theorem relN_ref (a b : LawD) (ws : List Snd) : relN a b ws = bitsR (decide ((applyM b ws).2 = ws)) (decide ((applyM b (applyM a ws).2).2 = (applyM a ws).2)) (decide ((applyM a ws).2 = ws)) (decide ((applyM a (applyM b ws).2).2 = (applyM b ws).2)) (decide ((applyM b (applyM a ws).2).2 = (applyM a (applyM b ws).2).2)) := by
 unfold relN
 rw [show decide (ws = (applyM b ws).2) = decide ((applyM b ws).2 = ws) from decide_eq_decide.2 eq_comm,
  show decide ((applyM a ws).2 = (applyM b (applyM a ws).2).2) = decide ((applyM b (applyM a ws).2).2 = (applyM a ws).2) from decide_eq_decide.2 eq_comm,
  show decide (ws = (applyM a ws).2) = decide ((applyM a ws).2 = ws) from decide_eq_decide.2 eq_comm,
  show decide ((applyM b ws).2 = (applyM a (applyM b ws).2).2) = decide ((applyM a (applyM b ws).2).2 = (applyM b ws).2) from decide_eq_decide.2 eq_comm]
theorem r12Relation_c (la : LawD) (aa : LawA) (lb : LawD) (ab : LawA) (A : Option Addr) (n c : Nat) (ws : List Snd) (w : World) (hla : LawAt w la aa) (hlb : LawAt w lb ab) (hw : IsWord w A n c ws) (hua : LawU la) (hub : LawU lb) (hwu : WordU ws) :
  Calls Tryz.prog 30 #[lawV la aa, lawV lb ab, .slice A n c] w fun e w' => e = .returned (.tuple #[.int .i64 (relM la lb ws).1, .int .i64 (relM la lb ws).2]) ∧ Below w.heap.size w w' := by
 have HLA := hI hla; clear hla
 have HLB := hI hlb; clear hlb
 have HW := hI hw; clear hw
 have HUA := hI hua; clear hua
 have HUB := hI hub; clear hub
 have HWU := hI hwu; clear hwu
 obtain ⟨W1, hW1, hr1, hl1, hB1, hz1⟩ := law_box w la aa
 obtain ⟨W2, hW2, hr2, hl2, hB2, hz2⟩ := law_box W1 lb ab
 have HS2 : Hid (RelSt w w.heap.size W1.heap.size la aa lb ab W2) := ⟨hB1.trans (hB2.mono hB1.size), (hB2.block _ hl1).trans hr1, hr2⟩
 clear hr1 hr2 hB1 hB2
 go_enter Tryz.func30, Tryz.ntmps30
 go_wp2_with (first | (refine load_law rfl (.tmp 3) rfl w.heap.size la aa rfl HS2.out.hA ?_) | (refine load_law rfl (.tmp 4) rfl W1.heap.size lb ab rfl HS2.out.hB ?_))
 refine (r12four_c la aa lb ab A n c ws W2 (HLA.out.below HS2.out.b rr) (HLB.out.below HS2.out.b rr) (HW.out.below HS2.out.b rr) HUA.out HUB.out HWU.out).mono ?_
 rintro e w3 ⟨hf, hb⟩
 have HB3 := hI (HS2.out.b.trans (hb.mono HS2.out.b.size)); clear hb hW1 hW2 HS2
 rcases hf with ⟨er, rfl, her, h1⟩ | ⟨A0, n0, c0, A1, n1, c1, A2, n2, c2, A3, n3, c3, rfl, ha, hb, hfo, hw0, hw1, hw2, hw3⟩
 ·have HR := hI h1
  have h2 : (er != 0) = true := by simpa using her
  clear h1
  unfold fourV
  go_wp2
  go_ret2
  exact ⟨by rw [HR.out]; rfl, HB3.out.alloc HB3.out.size _⟩
 ·unfold fourV
  go_wp2_with fail
  have HM0 := hI ((rel_good ha hb hfo).trans (by rw [relN_ref]))
  clear ha hb hfo
  obtain ⟨q1, hq1⟩ : ∃ q, q = (applyM la ws).2 := ⟨_, rfl⟩
  obtain ⟨q2, hq2⟩ : ∃ q, q = (applyM lb ws).2 := ⟨_, rfl⟩
  rw [← hq1, ← hq2] at HM0
  rw [← hq1] at hw0 hw2
  rw [← hq2] at hw1 hw3
  obtain ⟨q3, hq3⟩ : ∃ q, q = (applyM lb q1).2 := ⟨_, rfl⟩
  obtain ⟨q4, hq4⟩ : ∃ q, q = (applyM la q2).2 := ⟨_, rfl⟩
  rw [← hq3, ← hq4] at HM0
  rw [← hq3] at hw2
  rw [← hq4] at hw3
  clear hq1 hq2 hq3 hq4
  have HQ1 := hI hw0; clear hw0
  have HQ2 := hI hw1; clear hw1
  have HQ3 := hI hw2; clear hw2
  have HQ4 := hI hw3; clear hw3
  obtain ⟨d1, hd1⟩ : ∃ d, d = decide (q2 = ws) := ⟨_, rfl⟩
  obtain ⟨d2, hd2⟩ : ∃ d, d = decide (q3 = q1) := ⟨_, rfl⟩
  obtain ⟨d3, hd3⟩ : ∃ d, d = decide (q1 = ws) := ⟨_, rfl⟩
  obtain ⟨d4, hd4⟩ : ∃ d, d = decide (q4 = q2) := ⟨_, rfl⟩
  obtain ⟨d5, hd5⟩ : ∃ d, d = decide (q3 = q4) := ⟨_, rfl⟩
  rw [← hd1, ← hd2, ← hd3, ← hd4, ← hd5] at HM0
  have HM := hI HM0.out; clear HM0
  have HD1 := hI hd1; clear hd1
  have HD2 := hI hd2; clear hd2
  have HD3 := hI hd3; clear hd3
  have HD4 := hI hd4; clear hd4
  have HD5 := hI hd5; clear hd5
  have hr0 : (w3.alloc (.cells #[.slice A0 n0 c0, .slice A1 n1 c1, .slice A2 n2 c2, .slice A3 n3 c3] 140)).heap[w3.heap.size]? = some (.cells #[.slice A0 n0 c0, .slice A1 n1 c1, .slice A2 n2 c2, .slice A3 n3 c3] 140 (0, 0)) := heap_new_at rfl
  have hk0 : Below w3.heap.size w3 (w3.alloc (.cells #[.slice A0 n0 c0, .slice A1 n1 c1, .slice A2 n2 c2, .slice A3 n3 c3] 140)) := (Below.refl _ _).alloc rr _
  generalize w3.alloc (.cells #[.slice A0 n0 c0, .slice A1 n1 c1, .slice A2 n2 c2, .slice A3 n3 c3] 140) = v0 at *
  have HF := hI hr0; clear hr0
  have HK := hI hk0; clear hk0
  refine (rEqual_c A1 A n1 n c1 c q2 ws v0 (HQ2.out.below HK.out rr) (HW.out.below (HB3.out.trans (HK.out.mono HB3.out.size)) rr)).mono ?_
  have k0 := cell_at_heap (j := 0) HF.out rfl
  have k1 := cell_at_heap (j := 1) HF.out rfl
  have k2 := cell_at_heap (j := 2) HF.out rfl
  have k3 := cell_at_heap (j := 3) HF.out rfl
  rw [← HD1.out]
  rintro e v1 ⟨rfl, hb⟩
  replace HF := hI ((hb.block _ (lt_of_block HF.out)).trans HF.out)
  replace HK := hI (HK.out.trans (hb.mono HK.out.size))
  clear hb k0 k1 k2 k3
  have k0 := cell_at_heap (j := 0) HF.out rfl
  have k1 := cell_at_heap (j := 1) HF.out rfl
  have k2 := cell_at_heap (j := 2) HF.out rfl
  have k3 := cell_at_heap (j := 3) HF.out rfl
  go_wp2_with fail
  refine (rEqual_c A2 A0 n2 n0 c2 c0 q3 q1 v1 (HQ3.out.below HK.out rr) (HQ1.out.below HK.out rr)).mono ?_
  rw [← HD2.out]
  rintro e v2 ⟨rfl, hb⟩
  replace HF := hI ((hb.block _ (lt_of_block HF.out)).trans HF.out)
  replace HK := hI (HK.out.trans (hb.mono HK.out.size))
  clear hb k0 k1 k2 k3
  have k0 := cell_at_heap (j := 0) HF.out rfl
  have k1 := cell_at_heap (j := 1) HF.out rfl
  have k2 := cell_at_heap (j := 2) HF.out rfl
  have k3 := cell_at_heap (j := 3) HF.out rfl
  cases d1 <;> cases d2
  case false.false => go_wp2_with fail
                      refine (rEqual_c A0 A n0 n c0 c q1 ws v2 (HQ1.out.below HK.out rr) (HW.out.below (HB3.out.trans (HK.out.mono HB3.out.size)) rr)).mono ?_
                      rw [← HD3.out]
                      rintro e v3 ⟨rfl, hb⟩
                      replace HF := hI ((hb.block _ (lt_of_block HF.out)).trans HF.out)
                      replace HK := hI (HK.out.trans (hb.mono HK.out.size))
                      clear hb k0 k1 k2 k3
                      have k0 := cell_at_heap (j := 0) HF.out rfl
                      have k1 := cell_at_heap (j := 1) HF.out rfl
                      have k2 := cell_at_heap (j := 2) HF.out rfl
                      have k3 := cell_at_heap (j := 3) HF.out rfl
                      go_wp2_with fail
                      refine (rEqual_c A3 A1 n3 n1 c3 c1 q4 q2 v3 (HQ4.out.below HK.out rr) (HQ2.out.below HK.out rr)).mono ?_
                      rw [← HD4.out]
                      rintro e v4 ⟨rfl, hb⟩
                      replace HF := hI ((hb.block _ (lt_of_block HF.out)).trans HF.out)
                      replace HK := hI (HK.out.trans (hb.mono HK.out.size))
                      clear hb k0 k1 k2 k3
                      have k0 := cell_at_heap (j := 0) HF.out rfl
                      have k1 := cell_at_heap (j := 1) HF.out rfl
                      have k2 := cell_at_heap (j := 2) HF.out rfl
                      have k3 := cell_at_heap (j := 3) HF.out rfl
                      cases d3 <;> cases d4
                      case false.false => go_wp2_with fail
                                          refine (rEqual_c A2 A3 n2 n3 c2 c3 q3 q4 v4 (HQ3.out.below HK.out rr) (HQ4.out.below HK.out rr)).mono ?_
                                          rw [← HD5.out]
                                          rintro e v5 ⟨rfl, hb⟩
                                          replace HF := hI ((hb.block _ (lt_of_block HF.out)).trans HF.out)
                                          replace HK := hI (HK.out.trans (hb.mono HK.out.size))
                                          clear hb k0 k1 k2 k3
                                          have k0 := cell_at_heap (j := 0) HF.out rfl
                                          have k1 := cell_at_heap (j := 1) HF.out rfl
                                          have k2 := cell_at_heap (j := 2) HF.out rfl
                                          have k3 := cell_at_heap (j := 3) HF.out rfl
                                          cases d5
                                          case false =>
                                           go_wp2
                                           go_ret2
                                           exact ⟨by rw [HM.out]; rfl, HB3.out.trans (HK.out.mono HB3.out.size)⟩
                                          case true =>
                                           go_wp2
                                           go_ret2
                                           exact ⟨by rw [HM.out]; rfl, HB3.out.trans (HK.out.mono HB3.out.size)⟩
                      case false.true => go_wp2_with fail
                                         refine (rEqual_c A2 A3 n2 n3 c2 c3 q3 q4 v4 (HQ3.out.below HK.out rr) (HQ4.out.below HK.out rr)).mono ?_
                                         rw [← HD5.out]
                                         rintro e v5 ⟨rfl, hb⟩
                                         replace HF := hI ((hb.block _ (lt_of_block HF.out)).trans HF.out)
                                         replace HK := hI (HK.out.trans (hb.mono HK.out.size))
                                         clear hb k0 k1 k2 k3
                                         have k0 := cell_at_heap (j := 0) HF.out rfl
                                         have k1 := cell_at_heap (j := 1) HF.out rfl
                                         have k2 := cell_at_heap (j := 2) HF.out rfl
                                         have k3 := cell_at_heap (j := 3) HF.out rfl
                                         cases d5
                                         case false =>
                                          go_wp2
                                          go_ret2
                                          exact ⟨by rw [HM.out]; rfl, HB3.out.trans (HK.out.mono HB3.out.size)⟩
                                         case true =>
                                          go_wp2
                                          go_ret2
                                          exact ⟨by rw [HM.out]; rfl, HB3.out.trans (HK.out.mono HB3.out.size)⟩
                      case true.false => go_wp2_with fail
                                         refine (rEqual_c A2 A3 n2 n3 c2 c3 q3 q4 v4 (HQ3.out.below HK.out rr) (HQ4.out.below HK.out rr)).mono ?_
                                         rw [← HD5.out]
                                         rintro e v5 ⟨rfl, hb⟩
                                         replace HF := hI ((hb.block _ (lt_of_block HF.out)).trans HF.out)
                                         replace HK := hI (HK.out.trans (hb.mono HK.out.size))
                                         clear hb k0 k1 k2 k3
                                         have k0 := cell_at_heap (j := 0) HF.out rfl
                                         have k1 := cell_at_heap (j := 1) HF.out rfl
                                         have k2 := cell_at_heap (j := 2) HF.out rfl
                                         have k3 := cell_at_heap (j := 3) HF.out rfl
                                         cases d5
                                         case false =>
                                          go_wp2
                                          go_ret2
                                          exact ⟨by rw [HM.out]; rfl, HB3.out.trans (HK.out.mono HB3.out.size)⟩
                                         case true =>
                                          go_wp2
                                          go_ret2
                                          exact ⟨by rw [HM.out]; rfl, HB3.out.trans (HK.out.mono HB3.out.size)⟩
                      case true.true => go_wp2_with fail
                                        refine (rEqual_c A2 A3 n2 n3 c2 c3 q3 q4 v4 (HQ3.out.below HK.out rr) (HQ4.out.below HK.out rr)).mono ?_
                                        rw [← HD5.out]
                                        rintro e v5 ⟨rfl, hb⟩
                                        replace HF := hI ((hb.block _ (lt_of_block HF.out)).trans HF.out)
                                        replace HK := hI (HK.out.trans (hb.mono HK.out.size))
                                        clear hb k0 k1 k2 k3
                                        have k0 := cell_at_heap (j := 0) HF.out rfl
                                        have k1 := cell_at_heap (j := 1) HF.out rfl
                                        have k2 := cell_at_heap (j := 2) HF.out rfl
                                        have k3 := cell_at_heap (j := 3) HF.out rfl
                                        cases d5
                                        case false =>
                                         go_wp2
                                         go_ret2
                                         exact ⟨by rw [HM.out]; rfl, HB3.out.trans (HK.out.mono HB3.out.size)⟩
                                        case true =>
                                         go_wp2
                                         go_ret2
                                         exact ⟨by rw [HM.out]; rfl, HB3.out.trans (HK.out.mono HB3.out.size)⟩
  case false.true => go_wp2_with fail
                     refine (rEqual_c A0 A n0 n c0 c q1 ws v2 (HQ1.out.below HK.out rr) (HW.out.below (HB3.out.trans (HK.out.mono HB3.out.size)) rr)).mono ?_
                     rw [← HD3.out]
                     rintro e v3 ⟨rfl, hb⟩
                     replace HF := hI ((hb.block _ (lt_of_block HF.out)).trans HF.out)
                     replace HK := hI (HK.out.trans (hb.mono HK.out.size))
                     clear hb k0 k1 k2 k3
                     have k0 := cell_at_heap (j := 0) HF.out rfl
                     have k1 := cell_at_heap (j := 1) HF.out rfl
                     have k2 := cell_at_heap (j := 2) HF.out rfl
                     have k3 := cell_at_heap (j := 3) HF.out rfl
                     go_wp2_with fail
                     refine (rEqual_c A3 A1 n3 n1 c3 c1 q4 q2 v3 (HQ4.out.below HK.out rr) (HQ2.out.below HK.out rr)).mono ?_
                     rw [← HD4.out]
                     rintro e v4 ⟨rfl, hb⟩
                     replace HF := hI ((hb.block _ (lt_of_block HF.out)).trans HF.out)
                     replace HK := hI (HK.out.trans (hb.mono HK.out.size))
                     clear hb k0 k1 k2 k3
                     have k0 := cell_at_heap (j := 0) HF.out rfl
                     have k1 := cell_at_heap (j := 1) HF.out rfl
                     have k2 := cell_at_heap (j := 2) HF.out rfl
                     have k3 := cell_at_heap (j := 3) HF.out rfl
                     cases d3 <;> cases d4
                     case false.false => go_wp2_with fail
                                         refine (rEqual_c A2 A3 n2 n3 c2 c3 q3 q4 v4 (HQ3.out.below HK.out rr) (HQ4.out.below HK.out rr)).mono ?_
                                         rw [← HD5.out]
                                         rintro e v5 ⟨rfl, hb⟩
                                         replace HF := hI ((hb.block _ (lt_of_block HF.out)).trans HF.out)
                                         replace HK := hI (HK.out.trans (hb.mono HK.out.size))
                                         clear hb k0 k1 k2 k3
                                         have k0 := cell_at_heap (j := 0) HF.out rfl
                                         have k1 := cell_at_heap (j := 1) HF.out rfl
                                         have k2 := cell_at_heap (j := 2) HF.out rfl
                                         have k3 := cell_at_heap (j := 3) HF.out rfl
                                         cases d5
                                         case false =>
                                          go_wp2
                                          go_ret2
                                          exact ⟨by rw [HM.out]; rfl, HB3.out.trans (HK.out.mono HB3.out.size)⟩
                                         case true =>
                                          go_wp2
                                          go_ret2
                                          exact ⟨by rw [HM.out]; rfl, HB3.out.trans (HK.out.mono HB3.out.size)⟩
                     case false.true => go_wp2_with fail
                                        refine (rEqual_c A2 A3 n2 n3 c2 c3 q3 q4 v4 (HQ3.out.below HK.out rr) (HQ4.out.below HK.out rr)).mono ?_
                                        rw [← HD5.out]
                                        rintro e v5 ⟨rfl, hb⟩
                                        replace HF := hI ((hb.block _ (lt_of_block HF.out)).trans HF.out)
                                        replace HK := hI (HK.out.trans (hb.mono HK.out.size))
                                        clear hb k0 k1 k2 k3
                                        have k0 := cell_at_heap (j := 0) HF.out rfl
                                        have k1 := cell_at_heap (j := 1) HF.out rfl
                                        have k2 := cell_at_heap (j := 2) HF.out rfl
                                        have k3 := cell_at_heap (j := 3) HF.out rfl
                                        cases d5
                                        case false =>
                                         go_wp2
                                         go_ret2
                                         exact ⟨by rw [HM.out]; rfl, HB3.out.trans (HK.out.mono HB3.out.size)⟩
                                        case true =>
                                         go_wp2
                                         go_ret2
                                         exact ⟨by rw [HM.out]; rfl, HB3.out.trans (HK.out.mono HB3.out.size)⟩
                     case true.false => go_wp2_with fail
                                        refine (rEqual_c A2 A3 n2 n3 c2 c3 q3 q4 v4 (HQ3.out.below HK.out rr) (HQ4.out.below HK.out rr)).mono ?_
                                        rw [← HD5.out]
                                        rintro e v5 ⟨rfl, hb⟩
                                        replace HF := hI ((hb.block _ (lt_of_block HF.out)).trans HF.out)
                                        replace HK := hI (HK.out.trans (hb.mono HK.out.size))
                                        clear hb k0 k1 k2 k3
                                        have k0 := cell_at_heap (j := 0) HF.out rfl
                                        have k1 := cell_at_heap (j := 1) HF.out rfl
                                        have k2 := cell_at_heap (j := 2) HF.out rfl
                                        have k3 := cell_at_heap (j := 3) HF.out rfl
                                        cases d5
                                        case false =>
                                         go_wp2
                                         go_ret2
                                         exact ⟨by rw [HM.out]; rfl, HB3.out.trans (HK.out.mono HB3.out.size)⟩
                                        case true =>
                                         go_wp2
                                         go_ret2
                                         exact ⟨by rw [HM.out]; rfl, HB3.out.trans (HK.out.mono HB3.out.size)⟩
                     case true.true => go_wp2_with fail
                                       refine (rEqual_c A2 A3 n2 n3 c2 c3 q3 q4 v4 (HQ3.out.below HK.out rr) (HQ4.out.below HK.out rr)).mono ?_
                                       rw [← HD5.out]
                                       rintro e v5 ⟨rfl, hb⟩
                                       replace HF := hI ((hb.block _ (lt_of_block HF.out)).trans HF.out)
                                       replace HK := hI (HK.out.trans (hb.mono HK.out.size))
                                       clear hb k0 k1 k2 k3
                                       have k0 := cell_at_heap (j := 0) HF.out rfl
                                       have k1 := cell_at_heap (j := 1) HF.out rfl
                                       have k2 := cell_at_heap (j := 2) HF.out rfl
                                       have k3 := cell_at_heap (j := 3) HF.out rfl
                                       cases d5
                                       case false =>
                                        go_wp2
                                        go_ret2
                                        exact ⟨by rw [HM.out]; rfl, HB3.out.trans (HK.out.mono HB3.out.size)⟩
                                       case true =>
                                        go_wp2
                                        go_ret2
                                        exact ⟨by rw [HM.out]; rfl, HB3.out.trans (HK.out.mono HB3.out.size)⟩
  case true.false => go_wp2_with fail
                     refine (rEqual_c A0 A n0 n c0 c q1 ws v2 (HQ1.out.below HK.out rr) (HW.out.below (HB3.out.trans (HK.out.mono HB3.out.size)) rr)).mono ?_
                     rw [← HD3.out]
                     rintro e v3 ⟨rfl, hb⟩
                     replace HF := hI ((hb.block _ (lt_of_block HF.out)).trans HF.out)
                     replace HK := hI (HK.out.trans (hb.mono HK.out.size))
                     clear hb k0 k1 k2 k3
                     have k0 := cell_at_heap (j := 0) HF.out rfl
                     have k1 := cell_at_heap (j := 1) HF.out rfl
                     have k2 := cell_at_heap (j := 2) HF.out rfl
                     have k3 := cell_at_heap (j := 3) HF.out rfl
                     go_wp2_with fail
                     refine (rEqual_c A3 A1 n3 n1 c3 c1 q4 q2 v3 (HQ4.out.below HK.out rr) (HQ2.out.below HK.out rr)).mono ?_
                     rw [← HD4.out]
                     rintro e v4 ⟨rfl, hb⟩
                     replace HF := hI ((hb.block _ (lt_of_block HF.out)).trans HF.out)
                     replace HK := hI (HK.out.trans (hb.mono HK.out.size))
                     clear hb k0 k1 k2 k3
                     have k0 := cell_at_heap (j := 0) HF.out rfl
                     have k1 := cell_at_heap (j := 1) HF.out rfl
                     have k2 := cell_at_heap (j := 2) HF.out rfl
                     have k3 := cell_at_heap (j := 3) HF.out rfl
                     cases d3 <;> cases d4
                     case false.false => go_wp2_with fail
                                         refine (rEqual_c A2 A3 n2 n3 c2 c3 q3 q4 v4 (HQ3.out.below HK.out rr) (HQ4.out.below HK.out rr)).mono ?_
                                         rw [← HD5.out]
                                         rintro e v5 ⟨rfl, hb⟩
                                         replace HF := hI ((hb.block _ (lt_of_block HF.out)).trans HF.out)
                                         replace HK := hI (HK.out.trans (hb.mono HK.out.size))
                                         clear hb k0 k1 k2 k3
                                         have k0 := cell_at_heap (j := 0) HF.out rfl
                                         have k1 := cell_at_heap (j := 1) HF.out rfl
                                         have k2 := cell_at_heap (j := 2) HF.out rfl
                                         have k3 := cell_at_heap (j := 3) HF.out rfl
                                         cases d5
                                         case false =>
                                          go_wp2
                                          go_ret2
                                          exact ⟨by rw [HM.out]; rfl, HB3.out.trans (HK.out.mono HB3.out.size)⟩
                                         case true =>
                                          go_wp2
                                          go_ret2
                                          exact ⟨by rw [HM.out]; rfl, HB3.out.trans (HK.out.mono HB3.out.size)⟩
                     case false.true => go_wp2_with fail
                                        refine (rEqual_c A2 A3 n2 n3 c2 c3 q3 q4 v4 (HQ3.out.below HK.out rr) (HQ4.out.below HK.out rr)).mono ?_
                                        rw [← HD5.out]
                                        rintro e v5 ⟨rfl, hb⟩
                                        replace HF := hI ((hb.block _ (lt_of_block HF.out)).trans HF.out)
                                        replace HK := hI (HK.out.trans (hb.mono HK.out.size))
                                        clear hb k0 k1 k2 k3
                                        have k0 := cell_at_heap (j := 0) HF.out rfl
                                        have k1 := cell_at_heap (j := 1) HF.out rfl
                                        have k2 := cell_at_heap (j := 2) HF.out rfl
                                        have k3 := cell_at_heap (j := 3) HF.out rfl
                                        cases d5
                                        case false =>
                                         go_wp2
                                         go_ret2
                                         exact ⟨by rw [HM.out]; rfl, HB3.out.trans (HK.out.mono HB3.out.size)⟩
                                        case true =>
                                         go_wp2
                                         go_ret2
                                         exact ⟨by rw [HM.out]; rfl, HB3.out.trans (HK.out.mono HB3.out.size)⟩
                     case true.false => go_wp2_with fail
                                        refine (rEqual_c A2 A3 n2 n3 c2 c3 q3 q4 v4 (HQ3.out.below HK.out rr) (HQ4.out.below HK.out rr)).mono ?_
                                        rw [← HD5.out]
                                        rintro e v5 ⟨rfl, hb⟩
                                        replace HF := hI ((hb.block _ (lt_of_block HF.out)).trans HF.out)
                                        replace HK := hI (HK.out.trans (hb.mono HK.out.size))
                                        clear hb k0 k1 k2 k3
                                        have k0 := cell_at_heap (j := 0) HF.out rfl
                                        have k1 := cell_at_heap (j := 1) HF.out rfl
                                        have k2 := cell_at_heap (j := 2) HF.out rfl
                                        have k3 := cell_at_heap (j := 3) HF.out rfl
                                        cases d5
                                        case false =>
                                         go_wp2
                                         go_ret2
                                         exact ⟨by rw [HM.out]; rfl, HB3.out.trans (HK.out.mono HB3.out.size)⟩
                                        case true =>
                                         go_wp2
                                         go_ret2
                                         exact ⟨by rw [HM.out]; rfl, HB3.out.trans (HK.out.mono HB3.out.size)⟩
                     case true.true => go_wp2_with fail
                                       refine (rEqual_c A2 A3 n2 n3 c2 c3 q3 q4 v4 (HQ3.out.below HK.out rr) (HQ4.out.below HK.out rr)).mono ?_
                                       rw [← HD5.out]
                                       rintro e v5 ⟨rfl, hb⟩
                                       replace HF := hI ((hb.block _ (lt_of_block HF.out)).trans HF.out)
                                       replace HK := hI (HK.out.trans (hb.mono HK.out.size))
                                       clear hb k0 k1 k2 k3
                                       have k0 := cell_at_heap (j := 0) HF.out rfl
                                       have k1 := cell_at_heap (j := 1) HF.out rfl
                                       have k2 := cell_at_heap (j := 2) HF.out rfl
                                       have k3 := cell_at_heap (j := 3) HF.out rfl
                                       cases d5
                                       case false =>
                                        go_wp2
                                        go_ret2
                                        exact ⟨by rw [HM.out]; rfl, HB3.out.trans (HK.out.mono HB3.out.size)⟩
                                       case true =>
                                        go_wp2
                                        go_ret2
                                        exact ⟨by rw [HM.out]; rfl, HB3.out.trans (HK.out.mono HB3.out.size)⟩
  case true.true => go_wp2_with fail
                    refine (rEqual_c A0 A n0 n c0 c q1 ws v2 (HQ1.out.below HK.out rr) (HW.out.below (HB3.out.trans (HK.out.mono HB3.out.size)) rr)).mono ?_
                    rw [← HD3.out]
                    rintro e v3 ⟨rfl, hb⟩
                    replace HF := hI ((hb.block _ (lt_of_block HF.out)).trans HF.out)
                    replace HK := hI (HK.out.trans (hb.mono HK.out.size))
                    clear hb k0 k1 k2 k3
                    have k0 := cell_at_heap (j := 0) HF.out rfl
                    have k1 := cell_at_heap (j := 1) HF.out rfl
                    have k2 := cell_at_heap (j := 2) HF.out rfl
                    have k3 := cell_at_heap (j := 3) HF.out rfl
                    go_wp2_with fail
                    refine (rEqual_c A3 A1 n3 n1 c3 c1 q4 q2 v3 (HQ4.out.below HK.out rr) (HQ2.out.below HK.out rr)).mono ?_
                    rw [← HD4.out]
                    rintro e v4 ⟨rfl, hb⟩
                    replace HF := hI ((hb.block _ (lt_of_block HF.out)).trans HF.out)
                    replace HK := hI (HK.out.trans (hb.mono HK.out.size))
                    clear hb k0 k1 k2 k3
                    have k0 := cell_at_heap (j := 0) HF.out rfl
                    have k1 := cell_at_heap (j := 1) HF.out rfl
                    have k2 := cell_at_heap (j := 2) HF.out rfl
                    have k3 := cell_at_heap (j := 3) HF.out rfl
                    cases d3 <;> cases d4
                    case false.false => go_wp2_with fail
                                        refine (rEqual_c A2 A3 n2 n3 c2 c3 q3 q4 v4 (HQ3.out.below HK.out rr) (HQ4.out.below HK.out rr)).mono ?_
                                        rw [← HD5.out]
                                        rintro e v5 ⟨rfl, hb⟩
                                        replace HF := hI ((hb.block _ (lt_of_block HF.out)).trans HF.out)
                                        replace HK := hI (HK.out.trans (hb.mono HK.out.size))
                                        clear hb k0 k1 k2 k3
                                        have k0 := cell_at_heap (j := 0) HF.out rfl
                                        have k1 := cell_at_heap (j := 1) HF.out rfl
                                        have k2 := cell_at_heap (j := 2) HF.out rfl
                                        have k3 := cell_at_heap (j := 3) HF.out rfl
                                        cases d5
                                        case false =>
                                         go_wp2
                                         go_ret2
                                         exact ⟨by rw [HM.out]; rfl, HB3.out.trans (HK.out.mono HB3.out.size)⟩
                                        case true =>
                                         go_wp2
                                         go_ret2
                                         exact ⟨by rw [HM.out]; rfl, HB3.out.trans (HK.out.mono HB3.out.size)⟩
                    case false.true => go_wp2_with fail
                                       refine (rEqual_c A2 A3 n2 n3 c2 c3 q3 q4 v4 (HQ3.out.below HK.out rr) (HQ4.out.below HK.out rr)).mono ?_
                                       rw [← HD5.out]
                                       rintro e v5 ⟨rfl, hb⟩
                                       replace HF := hI ((hb.block _ (lt_of_block HF.out)).trans HF.out)
                                       replace HK := hI (HK.out.trans (hb.mono HK.out.size))
                                       clear hb k0 k1 k2 k3
                                       have k0 := cell_at_heap (j := 0) HF.out rfl
                                       have k1 := cell_at_heap (j := 1) HF.out rfl
                                       have k2 := cell_at_heap (j := 2) HF.out rfl
                                       have k3 := cell_at_heap (j := 3) HF.out rfl
                                       cases d5
                                       case false =>
                                        go_wp2
                                        go_ret2
                                        exact ⟨by rw [HM.out]; rfl, HB3.out.trans (HK.out.mono HB3.out.size)⟩
                                       case true =>
                                        go_wp2
                                        go_ret2
                                        exact ⟨by rw [HM.out]; rfl, HB3.out.trans (HK.out.mono HB3.out.size)⟩
                    case true.false => go_wp2_with fail
                                       refine (rEqual_c A2 A3 n2 n3 c2 c3 q3 q4 v4 (HQ3.out.below HK.out rr) (HQ4.out.below HK.out rr)).mono ?_
                                       rw [← HD5.out]
                                       rintro e v5 ⟨rfl, hb⟩
                                       replace HF := hI ((hb.block _ (lt_of_block HF.out)).trans HF.out)
                                       replace HK := hI (HK.out.trans (hb.mono HK.out.size))
                                       clear hb k0 k1 k2 k3
                                       have k0 := cell_at_heap (j := 0) HF.out rfl
                                       have k1 := cell_at_heap (j := 1) HF.out rfl
                                       have k2 := cell_at_heap (j := 2) HF.out rfl
                                       have k3 := cell_at_heap (j := 3) HF.out rfl
                                       cases d5
                                       case false =>
                                        go_wp2
                                        go_ret2
                                        exact ⟨by rw [HM.out]; rfl, HB3.out.trans (HK.out.mono HB3.out.size)⟩
                                       case true =>
                                        go_wp2
                                        go_ret2
                                        exact ⟨by rw [HM.out]; rfl, HB3.out.trans (HK.out.mono HB3.out.size)⟩
                    case true.true => go_wp2_with fail
                                      refine (rEqual_c A2 A3 n2 n3 c2 c3 q3 q4 v4 (HQ3.out.below HK.out rr) (HQ4.out.below HK.out rr)).mono ?_
                                      rw [← HD5.out]
                                      rintro e v5 ⟨rfl, hb⟩
                                      replace HF := hI ((hb.block _ (lt_of_block HF.out)).trans HF.out)
                                      replace HK := hI (HK.out.trans (hb.mono HK.out.size))
                                      clear hb k0 k1 k2 k3
                                      have k0 := cell_at_heap (j := 0) HF.out rfl
                                      have k1 := cell_at_heap (j := 1) HF.out rfl
                                      have k2 := cell_at_heap (j := 2) HF.out rfl
                                      have k3 := cell_at_heap (j := 3) HF.out rfl
                                      cases d5
                                      case false =>
                                       go_wp2
                                       go_ret2
                                       exact ⟨by rw [HM.out]; rfl, HB3.out.trans (HK.out.mono HB3.out.size)⟩
                                      case true =>
                                       go_wp2
                                       go_ret2
                                       exact ⟨by rw [HM.out]; rfl, HB3.out.trans (HK.out.mono HB3.out.size)⟩
theorem r12Feeds_c (la : LawD) (aa : LawA) (lb : LawD) (ab : LawA) (A : Option Addr) (n c : Nat) (ws : List Snd) (w : World) (hla : LawAt w la aa) (hlb : LawAt w lb ab) (hw : IsWord w A n c ws) (hua : LawU la) (hub : LawU lb) (hwu : WordU ws) :
  Calls Tryz.prog 32 #[lawV la aa, lawV lb ab, .slice A n c] w fun e w' => e = .returned (.tuple #[.bool (fedB la lb ws), .int .i64 (relM la lb ws).2]) ∧ Below w.heap.size w w' := by
 have HLA := hI hla; clear hla
 have HLB := hI hlb; clear hlb
 have HW := hI hw; clear hw
 have HUA := hI hua; clear hua
 have HUB := hI hub; clear hub
 have HWU := hI hwu; clear hwu
 obtain ⟨W1, hW1, hr1, hl1, hB1, hz1⟩ := law_box w la aa
 obtain ⟨W2, hW2, hr2, hl2, hB2, hz2⟩ := law_box W1 lb ab
 have HS2 : Hid (RelSt w w.heap.size W1.heap.size la aa lb ab W2) := ⟨hB1.trans (hB2.mono hB1.size), (hB2.block _ hl1).trans hr1, hr2⟩
 clear hr1 hr2 hB1 hB2
 go_enter Tryz.func32, Tryz.ntmps32
 go_wp2_with (first | (refine load_law rfl (.tmp 3) rfl w.heap.size la aa rfl HS2.out.hA ?_) | (refine load_law rfl (.tmp 4) rfl W1.heap.size lb ab rfl HS2.out.hB ?_))
 refine (r12Relation_c la aa lb ab A n c ws W2 (HLA.out.below HS2.out.b rr) (HLB.out.below HS2.out.b rr) (HW.out.below HS2.out.b rr) HUA.out HUB.out HWU.out).mono ?_
 rintro e w3 ⟨rfl, hb⟩
 have HB3 := hI (HS2.out.b.trans (hb.mono HS2.out.b.size)); clear hb hW1 hW2 HS2
 rcases rel_cases la lb ws with ⟨er, her, h1, _⟩ | ⟨_, _, _, _, h1, _⟩
 ·have HC := hI (fedB_bad h1 her)
  have HR := hI h1
  rw [h1]
  have h2 : (er == 0) = false := by simpa using her
  clear h1 her
  go_wp2
  go_ret2
  exact ⟨by rw [HC.out, HR.out]; rfl, HB3.out⟩
 ·have HC := hI (fedB_good h1)
  have HR := hI h1
  rw [h1]
  clear h1
  rw [show relN la lb ws = bitsR _ _ _ _ _ from rfl]
  unfold fedC at HC
  generalize decide (ws = (applyM lb ws).2) = c1 at *
  generalize decide ((applyM la ws).2 = (applyM lb (applyM la ws).2).2) = c2 at *
  generalize decide (ws = (applyM la ws).2) = c3 at *
  generalize decide ((applyM lb ws).2 = (applyM la (applyM lb ws).2).2) = c4 at *
  generalize decide ((applyM lb (applyM la ws).2).2 = (applyM la (applyM lb ws).2).2) = o at *
  go_wp2
  go_ret2
  refine ⟨?_, HB3.out⟩
  rw [HC.out, HR.out]
  clear HC HR HB3
  cases c1 <;> cases c2 <;> cases c3 <;> cases c4 <;> cases o <;> first | rfl | kernel_rfl
theorem r12Bleeds_c (la : LawD) (aa : LawA) (lb : LawD) (ab : LawA) (A : Option Addr) (n c : Nat) (ws : List Snd) (w : World) (hla : LawAt w la aa) (hlb : LawAt w lb ab) (hw : IsWord w A n c ws) (hua : LawU la) (hub : LawU lb) (hwu : WordU ws) :
  Calls Tryz.prog 34 #[lawV la aa, lawV lb ab, .slice A n c] w fun e w' => e = .returned (.tuple #[.bool (bleB la lb ws), .int .i64 (relM la lb ws).2]) ∧ Below w.heap.size w w' := by
 have HLA := hI hla; clear hla
 have HLB := hI hlb; clear hlb
 have HW := hI hw; clear hw
 have HUA := hI hua; clear hua
 have HUB := hI hub; clear hub
 have HWU := hI hwu; clear hwu
 obtain ⟨W1, hW1, hr1, hl1, hB1, hz1⟩ := law_box w la aa
 obtain ⟨W2, hW2, hr2, hl2, hB2, hz2⟩ := law_box W1 lb ab
 have HS2 : Hid (RelSt w w.heap.size W1.heap.size la aa lb ab W2) := ⟨hB1.trans (hB2.mono hB1.size), (hB2.block _ hl1).trans hr1, hr2⟩
 clear hr1 hr2 hB1 hB2
 go_enter Tryz.func34, Tryz.ntmps34
 go_wp2_with (first | (refine load_law rfl (.tmp 3) rfl w.heap.size la aa rfl HS2.out.hA ?_) | (refine load_law rfl (.tmp 4) rfl W1.heap.size lb ab rfl HS2.out.hB ?_))
 refine (r12Relation_c la aa lb ab A n c ws W2 (HLA.out.below HS2.out.b rr) (HLB.out.below HS2.out.b rr) (HW.out.below HS2.out.b rr) HUA.out HUB.out HWU.out).mono ?_
 rintro e w3 ⟨rfl, hb⟩
 have HB3 := hI (HS2.out.b.trans (hb.mono HS2.out.b.size)); clear hb hW1 hW2 HS2
 rcases rel_cases la lb ws with ⟨er, her, h1, _⟩ | ⟨_, _, _, _, h1, _⟩
 ·have HC := hI (bleB_bad h1 her)
  have HR := hI h1
  rw [h1]
  have h2 : (er == 0) = false := by simpa using her
  clear h1 her
  go_wp2
  go_ret2
  exact ⟨by rw [HC.out, HR.out]; rfl, HB3.out⟩
 ·have HC := hI (bleB_good h1)
  have HR := hI h1
  rw [h1]
  clear h1
  rw [show relN la lb ws = bitsR _ _ _ _ _ from rfl]
  unfold bleC at HC
  generalize decide (ws = (applyM lb ws).2) = c1 at *
  generalize decide ((applyM la ws).2 = (applyM lb (applyM la ws).2).2) = c2 at *
  generalize decide (ws = (applyM la ws).2) = c3 at *
  generalize decide ((applyM lb ws).2 = (applyM la (applyM lb ws).2).2) = c4 at *
  generalize decide ((applyM lb (applyM la ws).2).2 = (applyM la (applyM lb ws).2).2) = o at *
  go_wp2
  go_ret2
  refine ⟨?_, HB3.out⟩
  rw [HC.out, HR.out]
  clear HC HR HB3
  cases c1 <;> cases c2 <;> cases c3 <;> cases c4 <;> cases o <;> first | rfl | kernel_rfl
theorem r12Commute_c (la : LawD) (aa : LawA) (lb : LawD) (ab : LawA) (A : Option Addr) (n c : Nat) (ws : List Snd) (w : World) (hla : LawAt w la aa) (hlb : LawAt w lb ab) (hw : IsWord w A n c ws) (hua : LawU la) (hub : LawU lb) (hwu : WordU ws) :
  Calls Tryz.prog 36 #[lawV la aa, lawV lb ab, .slice A n c] w fun e w' => e = .returned (.tuple #[.bool (comB la lb ws), .int .i64 (relM la lb ws).2]) ∧ Below w.heap.size w w' := by
 have HLA := hI hla; clear hla
 have HLB := hI hlb; clear hlb
 have HW := hI hw; clear hw
 have HUA := hI hua; clear hua
 have HUB := hI hub; clear hub
 have HWU := hI hwu; clear hwu
 obtain ⟨W1, hW1, hr1, hl1, hB1, hz1⟩ := law_box w la aa
 obtain ⟨W2, hW2, hr2, hl2, hB2, hz2⟩ := law_box W1 lb ab
 have HS2 : Hid (RelSt w w.heap.size W1.heap.size la aa lb ab W2) := ⟨hB1.trans (hB2.mono hB1.size), (hB2.block _ hl1).trans hr1, hr2⟩
 clear hr1 hr2 hB1 hB2
 go_enter Tryz.func36, Tryz.ntmps36
 go_wp2_with (first | (refine load_law rfl (.tmp 3) rfl w.heap.size la aa rfl HS2.out.hA ?_) | (refine load_law rfl (.tmp 4) rfl W1.heap.size lb ab rfl HS2.out.hB ?_))
 refine (r12Relation_c la aa lb ab A n c ws W2 (HLA.out.below HS2.out.b rr) (HLB.out.below HS2.out.b rr) (HW.out.below HS2.out.b rr) HUA.out HUB.out HWU.out).mono ?_
 rintro e w3 ⟨rfl, hb⟩
 have HB3 := hI (HS2.out.b.trans (hb.mono HS2.out.b.size)); clear hb hW1 hW2 HS2
 rcases rel_cases la lb ws with ⟨er, her, h1, _⟩ | ⟨_, _, _, _, h1, _⟩
 ·have HC := hI (comB_bad h1 her)
  have HR := hI h1
  rw [h1]
  have h2 : (er == 0) = false := by simpa using her
  clear h1 her
  go_wp2
  go_ret2
  exact ⟨by rw [HC.out, HR.out]; rfl, HB3.out⟩
 ·have HC := hI (comB_good h1)
  have HR := hI h1
  rw [h1]
  clear h1
  rw [show relN la lb ws = bitsR _ _ _ _ _ from rfl]
  unfold orderedB at HC
  generalize decide (ws = (applyM lb ws).2) = c1 at *
  generalize decide ((applyM la ws).2 = (applyM lb (applyM la ws).2).2) = c2 at *
  generalize decide (ws = (applyM la ws).2) = c3 at *
  generalize decide ((applyM lb ws).2 = (applyM la (applyM lb ws).2).2) = c4 at *
  generalize decide ((applyM lb (applyM la ws).2).2 = (applyM la (applyM lb ws).2).2) = o at *
  go_wp2
  go_ret2
  refine ⟨?_, HB3.out⟩
  rw [HC.out, HR.out]
  clear HC HR HB3
  cases c1 <;> cases c2 <;> cases c3 <;> cases c4 <;> cases o <;> first | rfl | kernel_rfl
end Go.Proofs.YtcpcojgmmpnkoaaGreatDoor

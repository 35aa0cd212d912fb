/-
  slices.Collect over a set of places.
  Laws: how they are thought of, and how they lie in memory; law.fits.
  The contract of strings.Trim at this program: a table of numbers, and facts of the program (written by the kit's lay-plain).
  law.named.
-/
import Derived.Shelf.Strings.SlTrimAscii
import Derived.Test.YtaglfmlgbcmakaaGreatDoorG07
set_option linter.all false
set_option maxRecDepth 100000
set_option maxHeartbeats 4000000
namespace Go.Proofs.YtaglfmlgbcmakaaGreatDoor
open Go.RowKit Go.Shelf
attribute [local go_sem] Oper.semAt_some
def bitsL (s : Nat) : List Nat := (List.range 33).filter s.testBit
theorem filter_first (p q : Nat → Bool) (j : Nat) (hp : ∀ i, p i = (decide (i = j) || q i)) (hq : ∀ i, i ≤ j → q i = false) : ∀ n, j < n → (List.range n).filter p = j :: (List.range n).filter q
 | 0, h => absurd h (Nat.not_lt_zero _)
 | k + 1, h => by
  rw [List.range_succ, List.filter_append, List.filter_append]
  by_cases e : j = k
  ·subst e
   have h1 : (List.range j).filter p = [] := by
    apply List.filter_eq_nil_iff.2
    intro i hi
    have hi := List.mem_range.1 hi
    rw [hp, hq i (by omega)]
    simp; omega
   have h2 : (List.range j).filter q = [] := by
    apply List.filter_eq_nil_iff.2
    intro i hi
    have hi := List.mem_range.1 hi
    rw [hq i (by omega)]; simp
   have h3 : [j].filter p = [j] := by simp [hp]
   have h4 : [j].filter q = [] := by simp [hq j rr]
   rw [h1, h2, h3, h4]; rfl
  ·rw [filter_first p q j hp hq k (by omega)]
   have h3 : [k].filter p = [k].filter q := by
    have : p k = q k := by rw [hp]; simp; omega
    simp only [List.filter_cons, List.filter_nil, this]
   rw [h3]; rfl
theorem clr_test (s : Nat) (h0 : s ≠ 0) (hs : Small s) : ctz s < 33 ∧ (∀ i, s.testBit i = (decide (i = ctz s) || (clr s).testBit i)) ∧ ∀ i, i ≤ ctz s → (clr s).testBit i = false := by
 obtain ⟨m, hm, hk⟩ := ctz_form s h0 hs
 generalize hj : ctz s = j at *
 have hclr : clr s = 2 ^ (j + 1) * m := by
  unfold clr; rw [hj]; conv => lhs; rw [hm]
  rw [Nat.pow_succ, Nat.mul_add, Nat.mul_one, Nat.add_sub_cancel, Nat.mul_assoc]
 refine ⟨hk, fun i => ?_, fun i hi => ?_⟩
 ·rw [hclr, Nat.testBit_two_pow_mul]
  conv => lhs; rw [hm, Nat.testBit_two_pow_mul]
  by_cases h1 : i < j
  ·have : ¬ j ≤ i := by omega
   have h2 : ¬ j + 1 ≤ i := by omega
   have h3 : ¬ i = j := by omega
   simp [this, h2, h3]
  ·by_cases h2 : i = j
   ·subst h2; simp
   ·have e : i - j = (i - (j + 1)) + 1 := by omega
    have h3 : j ≤ i := by omega
    have h4 : j + 1 ≤ i := by omega
    rw [e, Nat.testBit_succ, show (2 * m + 1) / 2 = m by omega]
    simp [h2, h3, h4]
 ·rw [hclr, Nat.testBit_two_pow_mul]
  have : ¬ j + 1 ≤ i := by omega
  simp [this]
theorem bitsL_step (s : Nat) (h0 : s ≠ 0) (hs : Small s) : bitsL s = ctz s :: bitsL (clr s) := by
 obtain ⟨h1, h2, h3⟩ := clr_test s h0 hs
 exact filter_first _ _ _ h2 h3 33 h1
theorem bitsL_zero : bitsL 0 = [] := by unfold bitsL; apply List.filter_eq_nil_iff.2; intro i _; simp
theorem bitsL_len (s : Nat) : (bitsL s).length ≤ 33 := by have := List.length_filter_le s.testBit (List.range 33); simpa [bitsL] using this
theorem appendSeq_c (s bs : Nat) (w : World) (hs : Small s) (hb : w.heap[bs]? = some (.cells #[.int .u64 (s : Int)] 264 (0, 0))) (hT : TabOK w) (hbT : 3 ≠ bs) :
  Calls Tryz.prog 242 #[.slice none 0 0, .func (.func 243) #[] #[.pointer (some ⟨bs, 0, none⟩)]] w fun e w' =>
   ∃ A c, e = .returned (.slice A (bitsL s).length c) ∧ Cells w' A (bitsL s).length c 1 (ints (bitsL s)) ∧ Keep (fun j => j = bs) w w' := by
 have hbl := lt_of_block hb
 have HB := hI hb; clear hb
 have HT := hI hT; clear hT
 refine (callsIn_wide (n := 9)).1 (callsIn_of_wp_marks Tryz.func242 rfl trivial ?_ rfl)
 simp only [Tryz.ntmps242, List.size_toArray, List.length_cons, List.length_nil, Nat.reduceAdd, Nat.reduceSub, Array.replicate_succ, Array.replicate_zero, List.push_toArray, List.append_toArray, List.nil_append, List.cons_append]
 gi_wp2
 have hA0 : (w.alloc (.cells #[.slice none 0 0] 36)).heap[w.heap.size]? = some (.cells #[.slice none 0 0] 36 (0, 0)) := heap_new_at rfl
 have hAb : (w.alloc (.cells #[.slice none 0 0] 36)).heap[bs]? = some (.cells #[.int .u64 (s : Int)] 264 (0, 0)) := (heap_old_at hbl).trans HB.out
 have hAs : (w.alloc (.cells #[.slice none 0 0] 36)).heap.size = w.heap.size + 1 := by simp
 have hAK : Keep (fun _ => False) w (w.alloc (.cells #[.slice none 0 0] 36)) := (Keep.refl _ _).alloc _
 generalize (w.alloc (.cells #[.slice none 0 0] 36)) = W0 at *
 refine wide_range (gf := 243) (lb := #[.pointer (some ⟨bs, 0, none⟩)]) rfl (enters_of Tryz.func243 (by kernel_rfl) rfl) fun fn D l rc W1 hrc hD hl hK1 hD1 hl1 hs1 => ?_
 have hlg : w.heap.size < D := by omega
 have hDl : D < l := by omega
 have hlW : l < W1.heap.size := by omega
 have HRC := hI hrc; clear hrc
 have hKW : Keep (fun _ => False) w W1 := hAK.trans hK1
 have h01 : W1.heap[w.heap.size]? = some (.cells #[.slice none 0 0] 36 (0, 0)) := (hK1.block _ (by omega) (by simp)).trans hA0
 have hb1 : W1.heap[bs]? = some (.cells #[.int .u64 (s : Int)] 264 (0, 0)) := (hK1.block _ (by omega) (by simp)).trans hAb
 have HE := hI (And.intro hD (And.intro hl (And.intro hs1 hAs))); clear hD hl hs1 hAs
 obtain ⟨J, hJ⟩ : ∃ J : Nat → World → Prop, J = fun s' W => ∃ (L : List Nat) (A : Option Addr) (c : Nat), L ++ bitsL s' = bitsL s ∧ W.heap[w.heap.size]? = some (.cells #[.slice A L.length c] 36 (0, 0)) ∧
   W.ownsRow W1.heap.size 3 1 (.slice A L.length c) L.length (ints L) ∧ Keep (fun j => j = w.heap.size ∨ j = bs ∨ j = l) W1 W ∧ W.heap[l]? = some (.loop (rc .ready none)) := ⟨_, rfl⟩
 have HJ := hI hJ; clear hJ
 have hTl := HT.out.1
 refine (all1_iter (9 - 1) l bs s (by omega) J (fun _ _ => False) W1 ?st ?dr ?tab ?yield ?zero hb1 hs).mono ?_
 case st =>
  intro s' v W hx
  rw [HJ.out] at hx ⊢
  obtain ⟨L, A, c, h1, h2, h3, h4, h5⟩ := hx
  refine ⟨L, A, c, h1, (Below.heap_setCell _ _ _ _ (by simp; omega)).trans h2, ?_, h4.setCell (by simp) _, (Below.heap_setCell _ _ _ _ (by simp; omega)).trans h5⟩
  exact ownsRow_setCell_other h3 (fun e => by have := (h3.lt _ e).1; simp at this; omega) _
 case dr =>
  intro s' W hx
  rw [HJ.out] at hx ⊢
  obtain ⟨L, A, c, h1, h2, h3, h4, h5⟩ := hx
  exact ⟨L, A, c, h1, h2, h3, h4.drew, h5⟩
 case tab =>
  intro s' W hx
  rw [HJ.out] at hx
  obtain ⟨L, A, c, h1, h2, h3, h4, h5⟩ := hx
  exact ((HT.out.keep hAK (by simp)).keep hK1 (by simp)).keep h4 (by omega)
 case zero =>
  rw [HJ.out]
  exact ⟨[], none, 0, rfl, h01, World.ownsRow_nil _ _ _ _, Keep.refl _ _, hl1⟩
 case yield =>
  intro s' W hne hsm hx
  rw [HJ.out] at hx
  obtain ⟨L, A, c, h1, h2, h3, h4, h5⟩ := hx
  refine wide_round HRC.out h5 rfl ?_
  have H5 := hI h5; clear h5
  have H1 := hI h1; clear h1
  have H2 := hI h2; clear h2
  have H3 := hI h3; clear h3
  have H4 := hI h4; clear h4
  gi_wp2
  refine ⟨H5.out, ?_⟩
  have hll : l < W.heap.size := (Array.getElem?_eq_some_iff.1 H5.out).1
  have hV1 : (W.putObj l (.loop (rc .busy none))).heap[l]? = some (.loop (rc .busy none)) := World.putObj_heap_same hll
  have hKV : Keep (fun j => j = w.heap.size ∨ j = bs ∨ j = l) W1 (W.putObj l (.loop (rc .busy none))) := H4.out.putObj (by simp) _
  have h2V : (W.putObj l (.loop (rc .busy none))).heap[w.heap.size]? = some (.cells #[.slice A L.length c] 36 (0, 0)) := (World.putObj_heap_other (by omega)).trans H2.out
  have h3V : (W.putObj l (.loop (rc .busy none))).ownsRow W1.heap.size 3 1 (.slice A L.length c) L.length (ints L) := ownsRow_putObj H3.out _ H5.out rfl
  have hbV : (W.putObj l (.loop (rc .busy none))).heap[bs]? = W.heap[bs]? := World.putObj_heap_other (by omega)
  generalize W.putObj l (.loop (rc .busy none)) = V at *
  have hL33 : L.length ≤ 33 := by have := congrArg List.length H1.out; rw [List.length_append] at this; have := bitsL_len s; omega
  have hV0 : w.heap.size < V.heap.size := lt_of_block h2V
  have hVs := hKV.size
  have c2 := cell_of_one h2V
  have f2 := free_of_one h2V
  have HKV := hI hKV; clear hKV
  have H2V := hI h2V; clear h2V
  have H3V := hI h3V; clear h3V
  have HV1 := hI hV1; clear hV1
  have HBV := hI hbV; clear hbV
  gi_wp2_with (gi_at_builtin; refine wpListIn_append_at rfl (.tmp 8) (.tmp 10) 36 rfl W1.heap.size 3 (.int .i64 0) 1 8 Tryz.underlying36 int_info rfl (by decide) (.slice A L.length c) L.length (ints L) rfl (H3V.out.alloc _) ⟨V.heap.size, 0, none⟩ 1 1 [.int .i64 (ctz s')] rfl rfl (cell_one_new _ _ _) (by simp [Value.oneCell']) (by unfold maxLen; omega) (by omega) (by simp; omega) ?hk)
  case hk =>
   intro v' w4 hown4 hg4 _
   obtain ⟨g4, cap4, rfl⟩ := ownsRow_succ hown4
   have hr0 : ∀ k, some k = (Value.slice A L.length c).ownBlock → W1.heap.size ≤ k := fun k hk => (H3V.out.lt k hk.symm).1
   have hs4 := hg4.size
   simp only [World.size_alloc] at hs4
   have p2 : w4.heap[w.heap.size]? = some (.cells #[.slice A L.length c] 36 (0, 0)) := (hg4.block _ (by simp; omega) (fun e => by have := hr0 _ e; omega)).trans ((heap_old_at hV0).trans H2V.out)
   have pl : w4.heap[l]? = some (.loop (rc .busy none)) := (hg4.block _ (by simp; omega) (fun e => by have := hr0 _ e; omega)).trans ((heap_old_at (by omega)).trans HV1.out)
   have pb : w4.heap[bs]? = W.heap[bs]? := (hg4.block _ (by simp; omega) (fun e => by have := hr0 _ e; omega)).trans ((heap_old_at (by omega)).trans HBV.out)
   have pK : Keep (fun j => j = w.heap.size ∨ j = bs ∨ j = l) W1 w4 := (HKV.out.alloc _).grown hg4 (fun k hk => .inr (hr0 k hk.symm))
   have hlow := (hown4.lt g4 rfl).1
   have c4 := cell_of_one p2
   have f4 := free_of_one p2
   have P2 := hI p2; clear p2
   have PL := hI pl; clear pl
   have PB := hI pb; clear pb
   have PK := hI pK; clear pK
   have HOWN4 := hI hown4
   clear hown4 hg4 hr0 c2 f2
   gi_wp2
   have s2 := one_setCell (u := .slice (some ⟨g4, 0, none⟩) (L.length + 1) cap4) P2.out
   have s3 := ownsRow_setCell_other HOWN4.out (a := ⟨w.heap.size, 0, none⟩) (by simp [Value.ownBlock]; omega) (.slice (some ⟨g4, 0, none⟩) (L.length + 1) cap4)
   have sl := (Below.heap_setCell w4 ⟨w.heap.size, 0, none⟩ (.slice (some ⟨g4, 0, none⟩) (L.length + 1) cap4) l (by simp; omega)).trans PL.out
   have sb := (Below.heap_setCell w4 ⟨w.heap.size, 0, none⟩ (.slice (some ⟨g4, 0, none⟩) (L.length + 1) cap4) bs (by simp; omega)).trans PB.out
   have sK := PK.out.setCell (p := ⟨w.heap.size, 0, none⟩) (by simp) (.slice (some ⟨g4, 0, none⟩) (L.length + 1) cap4)
   refine ⟨sl, rfl, ?_, ?_⟩
   ·rw [HJ.out]
    refine ⟨L ++ [ctz s'], some ⟨g4, 0, none⟩, cap4, ?_, ?_, ?_, sK.putObj (by simp) _, World.putObj_heap_same (lt_of_block sl)⟩
    ·rw [← H1.out, bitsL_step s' hne hsm, List.append_assoc]; rfl
    ·rw [World.putObj_heap_other (by omega), List.length_append]; exact s2
    ·rw [List.length_append]
     have h := ownsRow_putObj s3 (.loop (rc .ready none)) sl rfl
     simp only [ints, List.map_append] at h ⊢
     exact h
   ·rw [World.putObj_heap_other (by omega)]; exact sb
 ·rintro e W' ⟨⟨v, rfl⟩, hx | ⟨s', hf⟩⟩
  ·rw [HJ.out] at hx
   obtain ⟨L, A, c, h1, h2, h3, h4, h5⟩ := hx
   rw [bitsL_zero, List.append_nil] at h1
   subst h1
   refine .inl ⟨h5, ?_⟩
   have hKf : Keep (fun j => j = w.heap.size ∨ j = bs ∨ j = l) W1 (W'.putObj l (.loop (rc .exhausted none))) := h4.putObj (by simp) _
   have h2f : (W'.putObj l (.loop (rc .exhausted none))).heap[w.heap.size]? = some (.cells #[.slice A (bitsL s).length c] 36 (0, 0)) := (World.putObj_heap_other (by omega)).trans h2
   have h3f := ownsRow_putObj h3 (.loop (rc .exhausted none)) h5 rfl
   generalize W'.putObj l (.loop (rc .exhausted none)) = X at *
   have c2 := cell_of_one h2f
   have HKf := hI hKf; clear hKf
   have H3f := hI h3f; clear h3f h2 h3 h4 h5 h2f
   gi_wp2
   have hM : Marks w.heap.size X [mark D] := ⟨D, rfl, by omega, (HKf.out.block D (by omega) (by omega)).trans hD1, by simp, trivial⟩
   refine post_tmp (B := w.heap.size) Tryz.results242 (.slice A (bitsL s).length c) rfl hM fun w' hw' => ⟨A, c, rfl, ?_, ?_⟩
   ·exact Cells.of_own (own_shut H3f.out hw') (by decide)
   ·exact (keep_shut ((hKW.mono (fun k hk => hk.elim)).trans HKf.out) hw' rr).old (fun k hk hs => by omega)
  ·exact hf.elim
theorem collect_c (s bs : Nat) (w : World) (hs : Small s) (hb : w.heap[bs]? = some (.cells #[.int .u64 (s : Int)] 264 (0, 0))) (hT : TabOK w) (hbT : 3 ≠ bs) :
  Calls Tryz.prog 238 #[.func (.func 243) #[] #[.pointer (some ⟨bs, 0, none⟩)]] w fun e w' =>
   ∃ A c, e = .returned (.slice A (bitsL s).length c) ∧ Cells w' A (bitsL s).length c 1 (ints (bitsL s)) ∧ Keep (fun j => j = bs) w w' := by
 have h := appendSeq_c s bs w hs hb hT hbT
 clear hb hT
 go_enter Tryz.func238, Tryz.ntmps238
 go_wp2_with fail
 refine h.mono ?_
 rintro e w1 ⟨A, c, rfl, hC, hK⟩
 have HC := hI hC; clear hC
 go_wp2
 go_ret
 exact ⟨A, c, rfl, HC.out, hK⟩
def endsM (x : Nd × Fo) (ws : List Snd) (at_ : Int) : List Nat :=
 if atE x ws at_ = 0 then bitsL ((relR x ws).getD at_.toNat 0) else []
theorem ends_c (k : Nd) (ch : Fo) (A0 : Option Addr) (c0 : Nat) (A : Option Addr) (n c : Nat) (ws : List Snd) (at_ : Int) (w : World) (hf : FSl w A0 ch.len c0 ch) (hw : IsWord w A n c ws) (hT : TabOK w) :
  Calls Tryz.prog 227 #[patV k A0 ch.len c0, .slice A n c, .int .i64 at_] w (RetInts w (endsM (k, ch) ws at_) (atE (k, ch) ws at_)) := by
 have hn63 := hw.max
 have HF := hI hf; clear hf
 have HW := hI hw; clear hw
 have hTl := hT.1
 have HT := hI hT; clear hT
 go_enter Tryz.func227, Tryz.ntmps227
 go_wp2_with fail
 refine (relate_c k ch A0 c0 A n c ws _ (HF.out.below (B := w.heap.size) bel rr) (HW.out.below (B := w.heap.size) bel rr) (HT.out.below (B := w.heap.size) bel rr)).mono ?_
 rintro e w1 ⟨rfl, hb1⟩
 have hs1 := hb1.size
 simp only [World.size_alloc] at hs1
 have hB1 : Below w.heap.size w w1 := bel
 clear hb1
 have HL33 := hI (relR_ok (k, ch) ws).1
 have HSM := hI (relR_ok (k, ch) ws).2
 by_cases hE : relE (k, ch) ws = 0
 ·have hn32 : n ≤ 32 := by have := (relE_zero hE).2.1; rw [HW.out.len] at this; exact this
  have hE1 : (relE (k, ch) ws == 0) = true := by rw [hE]; rfl
  have hE2 : (relE (k, ch) ws != 0) = false := by rw [hE]; rfl
  have HE := hI hE; clear hE
  go_wp2_with (refine store_rel rfl (.tmp 8) (.tmp 14) rfl w1.heap.size zeroR (relR (k, ch) ws) rfl rfl ?hr HL33.out ?hc)
  case hr => exact ⟨hpt, rfl⟩
  case hc =>
   intro w2 hr2 hk2 hs2
   have hB2 : Below w.heap.size w w2 := keep_below (hB1.alloc hB1.size _) hk2 (by omega) sd
   have hs2' := Nat.le_of_eq hs2.symm; clear hs2 hk2
   go_wp2_with fail
   refine (exists_c A n c at_ _ hn32).mono ?_
   rintro e w3 ⟨rfl, rfl⟩
   have HR2 := hI hr2; clear hr2
   have hw1l : w1.heap.size < w2.heap.size := HR2.out.lt
   by_cases hx : existsM n at_ = 0
   ·have hat : atE (k, ch) ws at_ = 0 := by unfold atE; rw [if_pos HE.out, HW.out.len, hx]
    have hx1 : (existsM n at_ != 0) = false := by rw [hx]; rfl
    have h0 : 0 ≤ at_ ∧ at_ ≤ n := by unfold existsM at hx; split at hx <;> simp at *; omega
    obtain ⟨m, rfl⟩ : ∃ m : Nat, at_ = m := ⟨at_.toNat, by omega⟩
    have hm32 : m ≤ 32 := by omega
    have HAT := hI hat; clear hat hx h0
    obtain ⟨s, hs⟩ : ∃ s, (relR (k, ch) ws)[m]? = some s := ⟨(relR (k, ch) ws)[m]'(by have := HR2.out.2; omega), List.getElem?_eq_getElem _⟩
    have hbg : endsM (k, ch) ws m = bitsL s := by unfold endsM; rw [if_pos HAT.out, List.getD_eq_getElem?_getD]; simp [hs]
    have HBG := hI hbg; clear hbg
    have hc := HR2.out.get hs
    have hsm := hI (HSM.out s (List.mem_of_getElem? hs))
    clear hs
    have HB2 := hI hB2; clear hB2
    have hB2s := HB2.out.size
    have h33 : (m : Int) < 33 := by omega
    go_wp2_with fail
    refine (all_c _ _).mono ?_
    rintro e w3 ⟨rfl, rfl⟩
    have hT3 := hI (HT.out.below (B := w.heap.size) (HB2.out.alloc (by omega) (.cells #[.int .u64 (s : Int)] 264)) rr)
    go_wp2_with fail
    refine (collect_c s w2.heap.size _ hsm.out (heap_new_at rfl) hT3.out (by omega)).mono ?_
    rintro e w3 ⟨A1, c1, rfl, hC, hK⟩
    have HC := hI hC
    have HK3 := hI hK
    clear hC hK
    go_wp2
    go_ret2
    refine ⟨A1, c1, by rw [HBG.out, HAT.out]; rfl, by rw [HBG.out]; exact HC.out, (HB2.out.alloc (by omega) _).trans (HK3.out.to_below (fun k hk => by subst hk; omega) (by simp; omega))⟩
   ·have hat : atE (k, ch) ws at_ ≠ 0 := by unfold atE; rw [if_pos HE.out, HW.out.len]; exact hx
    have hat2 : atE (k, ch) ws at_ = existsM n at_ := by unfold atE; rw [if_pos HE.out, HW.out.len]
    have hbg : endsM (k, ch) ws at_ = [] := by unfold endsM; rw [if_neg hat]
    have hx1 : (existsM n at_ != 0) = true := by simpa using hx
    have HX := hI hat2; have HBG := hI hbg
    clear hat hat2 hbg hx
    go_wp2
    go_ret2
    exact ⟨none, 0, by rw [HX.out, HBG.out]; rfl, by rw [HBG.out]; exact Cells.nil _ _, hB2⟩
 ·have hat2 : atE (k, ch) ws at_ = relE (k, ch) ws := by unfold atE; rw [if_neg hE]
  have hbg : endsM (k, ch) ws at_ = [] := by unfold endsM; rw [hat2, if_neg hE]
  have hE1 : (relE (k, ch) ws == 0) = false := by simpa using hE
  have hE2 : (relE (k, ch) ws != 0) = true := by simpa using hE
  have HX := hI hat2; have HBG := hI hbg
  clear hat2 hbg hE
  go_wp2_with (refine store_rel rfl (.tmp 8) (.tmp 14) rfl w1.heap.size zeroR (relR (k, ch) ws) rfl rfl ?hr HL33.out ?hc)
  case hr => exact ⟨hpt, rfl⟩
  case hc =>
   intro w2 hr2 hk2 hs2
   have hB2 : Below w.heap.size w w2 := keep_below (hB1.alloc hB1.size _) hk2 (by omega) sd
   have hs2' := Nat.le_of_eq hs2.symm; clear hs2 hk2
   go_wp2
   go_ret2
   exact ⟨none, 0, by rw [HX.out, HBG.out]; rfl, by rw [HBG.out]; exact Cells.nil _ _, hB2⟩
end Go.Proofs.YtaglfmlgbcmakaaGreatDoor
namespace Go.Proofs.YtaglfmlgbcmakaaGreatDoor
open Go.RowKit Go.Shelf
theorem getD_of {α : Type} {l : List α} {k : Nat} {x d : α} (h : l[k]? = some x) : l.getD k d = x := by rw [List.getD_eq_getElem?_getD, h]; rfl
structure OutD where
 frm : Int
 clear : Int
 sp : Int
 sm : Int
 take : Int
 of_ : Int
def OutD.cells (x : OutD) : List Value := [.int .i64 x.frm, .int .u32 x.clear, .int .u32 x.sp, .int .u32 x.sm, .int .u32 x.take, .int .i64 x.of_]
theorem OutD.len (x : OutD) : x.cells.length = 6 := rfl
abbrev outV (x : OutD) : Value := .agg #[.int .i64 x.frm, .int .u32 x.clear, .int .u32 x.sp, .int .u32 x.sm, .int .u32 x.take, .int .i64 x.of_]
structure LawD where
 name : ByteArray
 left : Nd × Fo
 right : Nd × Fo
 ifs : List Snd
 outs : List OutD
 mode : Int
structure LawA where
 Al : Option Addr
 cl : Nat
 Ar : Option Addr
 cr : Nat
 Ai : Option Addr
 ci : Nat
 Ao : Option Addr
 co : Nat
def lawCs (l : LawD) (a : LawA) : Array Value := #[.string l.name, .int .i64 l.left.1.kind, .int .u32 l.left.1.isp, .int .u32 l.left.1.ism, .bool l.left.1.neg, .int .i64 l.left.1.lo, .int .i64 l.left.1.hi, .slice a.Al l.left.2.len a.cl, .int .i64 l.right.1.kind, .int .u32 l.right.1.isp, .int .u32 l.right.1.ism, .bool l.right.1.neg, .int .i64 l.right.1.lo, .int .i64 l.right.1.hi, .slice a.Ar l.right.2.len a.cr, .slice a.Ai l.ifs.length a.ci, .slice a.Ao l.outs.length a.co, .int .i64 l.mode]
abbrev lawV (l : LawD) (a : LawA) : Value := .agg (lawCs l a)
theorem lawCs_size (l : LawD) (a : LawA) : (lawCs l a).size = 18 := rfl
def LawAt (w : World) (l : LawD) (a : LawA) : Prop :=
 FSl w a.Al l.left.2.len a.cl l.left.2 ∧ FSl w a.Ar l.right.2.len a.cr l.right.2 ∧ IsWord w a.Ai l.ifs.length a.ci l.ifs ∧ Recs OutD.cells 6 w a.Ao l.outs.length a.co l.outs ∧ l.name.size ≤ 9223372036854775807
theorem LawAt.below {w w' : World} {l : LawD} {a : LawA} (h : LawAt w l a) {B : Nat} (hb : Below B w w') (hB : w.heap.size ≤ B) : LawAt w' l a :=
 ⟨h.1.below hb hB, h.2.1.below hb hB, h.2.2.1.below hb hB, h.2.2.2.1.below hb hB, h.2.2.2.2⟩
theorem law_cells {w : World} {b : Nat} {l : LawD} {a : LawA} {t : TypeId} {fr : Nat × Nat} (h : w.heap[b]? = some (.cells (lawCs l a) t fr)) :
  w.cell? ⟨b, 0, none⟩ = some (.string l.name) ∧ w.cell? ⟨b, 1, none⟩ = some (.int .i64 l.left.1.kind) ∧ w.cell? ⟨b, 2, none⟩ = some (.int .u32 l.left.1.isp) ∧ w.cell? ⟨b, 3, none⟩ = some (.int .u32 l.left.1.ism) ∧ w.cell? ⟨b, 4, none⟩ = some (.bool l.left.1.neg) ∧ w.cell? ⟨b, 5, none⟩ = some (.int .i64 l.left.1.lo) ∧ w.cell? ⟨b, 6, none⟩ = some (.int .i64 l.left.1.hi) ∧ w.cell? ⟨b, 7, none⟩ = some (.slice a.Al l.left.2.len a.cl) ∧ w.cell? ⟨b, 8, none⟩ = some (.int .i64 l.right.1.kind) ∧ w.cell? ⟨b, 9, none⟩ = some (.int .u32 l.right.1.isp) ∧ w.cell? ⟨b, 10, none⟩ = some (.int .u32 l.right.1.ism) ∧ w.cell? ⟨b, 11, none⟩ = some (.bool l.right.1.neg) ∧ w.cell? ⟨b, 12, none⟩ = some (.int .i64 l.right.1.lo) ∧ w.cell? ⟨b, 13, none⟩ = some (.int .i64 l.right.1.hi) ∧ w.cell? ⟨b, 14, none⟩ = some (.slice a.Ar l.right.2.len a.cr) ∧ w.cell? ⟨b, 15, none⟩ = some (.slice a.Ai l.ifs.length a.ci) ∧ w.cell? ⟨b, 16, none⟩ = some (.slice a.Ao l.outs.length a.co) ∧ w.cell? ⟨b, 17, none⟩ = some (.int .i64 l.mode) :=
 ⟨cell_at_heap h rfl, cell_at_heap h rfl, cell_at_heap h rfl, cell_at_heap h rfl, cell_at_heap h rfl, cell_at_heap h rfl, cell_at_heap h rfl, cell_at_heap h rfl, cell_at_heap h rfl, cell_at_heap h rfl, cell_at_heap h rfl, cell_at_heap h rfl, cell_at_heap h rfl, cell_at_heap h rfl, cell_at_heap h rfl, cell_at_heap h rfl, cell_at_heap h rfl, cell_at_heap h rfl⟩
theorem law_size (l : LawD) (a : LawA) : (Tryz.prog.info? 55).map (·.size) = some (lawCs l a).size := by rw [lawCs_size]; kernel_rfl
theorem run_load_law {w : World} {b : Nat} {l : LawD} {a : LawA} {t : TypeId} {fr : Nat × Nat} (h : w.heap[b]? = some (.cells (lawCs l a) t fr)) : (loadVar 55 ⟨b, 0, none⟩).run Tryz.prog w = .ok (lawV l a) w :=
 run_loadVar_row w b t 55 (lawCs l a) fr _ h Tryz.underlying55 rfl (law_size l a)
theorem load_law {ops : Array Oper} {rest : List Oper} {o : Oper} {ac : Act} {w : World} {Q : Exit → Act → World → Prop} (hgd : o.guard = none) (x : Operand) (ho : o.op = .load 55 x)
  (b : Nat) (l : LawD) (a : LawA) (hx : ac.eval x = .pointer (some ⟨b, 0, none⟩)) {t : TypeId} {fr : Nat × Nat} (hr : w.heap[b]? = some (.cells (lawCs l a) t fr)) (h : wpList Tryz.prog ops Q rest (ac.put o.dst (lawV l a)) w) : wpList Tryz.prog ops Q (o :: rest) ac w :=
 wpList_load_row hgd 55 x ho b hx t (lawCs l a) fr _ hr Tryz.underlying55 rfl (law_size l a) h
theorem load_lawIn {F : Fence} {n : Nat} {ops : Array Oper} {rest : List Oper} {o : Oper} {ac : Act} {w : World} {Q : Exit → Act → World → Prop} (hgd : o.guard = none) (x : Operand) (ho : o.op = .load 55 x)
  (b : Nat) (l : LawD) (a : LawA) (hx : ac.eval x = .pointer (some ⟨b, 0, none⟩)) {t : TypeId} {fr : Nat × Nat} (hr : w.heap[b]? = some (.cells (lawCs l a) t fr)) (h : wpListIn F n Tryz.prog ops Q rest (ac.put o.dst (lawV l a)) w) : wpListIn F n Tryz.prog ops Q (o :: rest) ac w := by
 refine wpListIn_plain hgd fun K hK => ?_
 unfold Oper.wpIn
 refine ⟨by simp [Oper.about, ho], ?_⟩
 rw [Oper.semAt_plain F _ _ (by rw [ho]; intro c hc'; cases hc')]
 unfold execOp
 simp only [ho, hx, Instr.loadAt, Instr.sureAddr, Sem.run_bind, Sem.run_pure, Result.andThen_ok, run_load_law hr]
 exact hK _ _ h
theorem yields_law {ops : Array Oper} {S : World → Prop} {op : Oper} {ac : Act} (hw : Region.wanted op (yielded ops ac.tmps) = true) (x : Operand) (ho : op.op = .load 55 x)
  (b : Nat) (l : LawD) (a : LawA) (hx : ac.eval x = .pointer (some ⟨b, 0, none⟩)) (hS : ∀ w, S w → w.heap[b]? = some (.cells (lawCs l a) 55 (0, 0))) : YieldsIf Tryz.prog ops S op (lawV l a) ac :=
 .inl ⟨hw, fun w hw' => by
  unfold execOp
  simp only [ho, hx, Instr.loadAt, Instr.sureAddr, Sem.run_bind, Sem.run_pure, Result.andThen_ok, run_load_law (hS w hw')]⟩
def patCells (k : Nd) (A : Option Addr) (n c : Nat) : List Value := [.int .i64 k.kind, .int .u32 k.isp, .int .u32 k.ism, .bool k.neg, .int .i64 k.lo, .int .i64 k.hi, .slice A n c]
theorem load_pat {ops : Array Oper} {rest : List Oper} {op : Oper} {ac : Act} {w : World} {Q : Exit → Act → World → Prop} (hgd : op.guard = none) (x : Operand) (ho : op.op = .load 52 x)
  (b o : Nat) (k : Nd) (A : Option Addr) (n c : Nat) (hx : ac.eval x = .pointer (some ⟨b, o, none⟩)) (hr : w.rangeAt b o (patCells k A n c)) (h : wpList Tryz.prog ops Q rest (ac.put op.dst (patV k A n c)) w) : wpList Tryz.prog ops Q (op :: rest) ac w :=
 wpList_load_mid hgd 52 x ho b o hx (patCells k A n c) _ hr Tryz.underlying52 rfl pat_size h
theorem law_one (l : LawD) (a : LawA) : (lawCs l a).all (·.oneCell') = true := by simp [lawCs, Value.oneCell']
theorem law_reads {w : World} {b : Nat} {l : LawD} {a : LawA} {t : TypeId} {fr : Nat × Nat} (h : w.heap[b]? = some (.cells (lawCs l a) t fr)) :
  w.cell? ⟨b, 0, none⟩ = some (.string l.name) ∧ w.cell? ⟨b, 15, none⟩ = some (.slice a.Ai l.ifs.length a.ci) ∧ w.cell? ⟨b, 16, none⟩ = some (.slice a.Ao l.outs.length a.co) ∧ w.cell? ⟨b, 17, none⟩ = some (.int .i64 l.mode) := by
 obtain ⟨d0, d1, d2, d3, d4, d5, d6, d7, d8, d9, d10, d11, d12, d13, d14, d15, d16, d17⟩ := law_cells h
 exact ⟨d0, d15, d16, d17⟩
theorem law_left {w : World} {b : Nat} {l : LawD} {a : LawA} {t : TypeId} {fr : Nat × Nat} (h : w.heap[b]? = some (.cells (lawCs l a) t fr)) : w.rangeAt b 1 (patCells l.left.1 a.Al l.left.2.len a.cl) :=
 World.rangeAt_of_block h 1 7
theorem law_right {w : World} {b : Nat} {l : LawD} {a : LawA} {t : TypeId} {fr : Nat × Nat} (h : w.heap[b]? = some (.cells (lawCs l a) t fr)) : w.rangeAt b 8 (patCells l.right.1 a.Ar l.right.2.len a.cr) :=
 World.rangeAt_of_block h 8 7
theorem law_box (w : World) (l : LawD) (a : LawA) : ∃ W, w.alloc (.cells (lawCs l a) 55) = W ∧ W.heap[w.heap.size]? = some (.cells (lawCs l a) 55 (0, 0)) ∧ w.heap.size < W.heap.size ∧ Below w.heap.size w W ∧ W.heap.size ≤ w.heap.size + 1 :=
 ⟨_, rfl, heap_alloc_new w _, by simp, (Below.refl _ _).alloc rr _, by simp⟩
def fitsM (x : OutD) (k : Int) : Bool :=
 if decide (x.frm < -1) || decide (k ≤ x.frm) || !fvalid x.sp x.sm then false
 else if bits .andNot .u32 (bits .or .u32 x.clear x.take) 16777215 != 0 || bits .and .u32 x.clear (bits .or .u32 x.sp x.sm) != 0 || bits .and .u32 x.take (bits .or .u32 (bits .or .u32 x.sp x.sm) x.clear) != 0 then false
 else if x.take == 0 then x.of_ == 0
 else decide (0 ≤ x.of_) && decide (x.of_ < k)
theorem fits_c (x : OutD) (k : Int) (w : World) :
  Calls Tryz.prog 150 #[outV x, .int .i64 k] w fun e w' => e = .returned (.bool (fitsM x k)) ∧ Below w.heap.size w w' := by
 go_enter Tryz.func150, Tryz.ntmps150
 go_wp2_with (go_at_call 152; refine (fValid_c _ _ _).mono ?_; rintro e w1 ⟨rfl, hb1⟩; have hz1 := bsize hb1; (try simp only [World.size_alloc, World.size_drew, World.size_setCell] at hz1); have c0 := fun o => hb1.cell (p := ⟨w.heap.size, o, none⟩) sd; have f0 := fun o => hb1.frozen (p := ⟨w.heap.size, o, none⟩) sd; have hB1 : Below w.heap.size w w1 := bel; clear hb1)
 all_goals (go_ret; refine ⟨?_, by first | exact hB1 | exact bel⟩; simp [fitsM, *]; try (first | omega | (intro hv; rename_i h; simp [hv] at h; omega)))
end Go.Proofs.YtaglfmlgbcmakaaGreatDoor
namespace Go.Proofs
open Go.Shelf
def Tryz.lays160_ren : Go.Shelf.Ren := ⟨fun | 160 => 52 | 232 => 92 | 231 => 91 | 227 => 93 | 234 => 95 | 233 => 94 | 236 => 97 | 235 => 96 | 228 => 126 | 271 => 129 | 151 => 128 | 197 => 127 | 120 => 165 | 152 => 164 | 260 => 163 | 137 => 180 | 119 => 181 | 224 => 182 | 225 => 183 | 217 => 195 | 266 => 202 | n => n, fun | 9 => 9 | 4 => 4 | 3 => 3 | 5 => 5 | 117 => 149 | 116 => 148 | 0 => 0 | 124 => 152 | 21 => 21 | 105 => 180 | 46 => 156 | 119 => 226 | 139 => 229 | 138 => 228 | n => n, fun | 3 => 0 | 4 => 1 | n => n⟩
theorem Tryz.lays160 : Go.Proofs.Lays.n160 Tryz.prog Tryz.lays160_ren := {
 mixed := by kernel_rfl
 f119 := Tryz.func181.trans (congrArg some (by kernel_rfl))
 f120 := Tryz.func165.trans (congrArg some (by kernel_rfl))
 f137 := Tryz.func180.trans (congrArg some (by kernel_rfl))
 f151 := Tryz.func128.trans (congrArg some (by kernel_rfl))
 f152 := Tryz.func164.trans (congrArg some (by kernel_rfl))
 f160 := Tryz.func52.trans (congrArg some (by kernel_rfl))
 f197 := Tryz.func127.trans (congrArg some (by kernel_rfl))
 f217 := Tryz.func195.trans (congrArg some (by kernel_rfl))
 f224 := Tryz.func182.trans (congrArg some (by kernel_rfl))
 f225 := Tryz.func183.trans (congrArg some (by kernel_rfl))
 f227 := Tryz.func93.trans (congrArg some (by kernel_rfl))
 f228 := Tryz.func126.trans (congrArg some (by kernel_rfl))
 f231 := Tryz.func91.trans (congrArg some (by kernel_rfl))
 f232 := Tryz.func92.trans (congrArg some (by kernel_rfl))
 f233 := Tryz.func94.trans (congrArg some (by kernel_rfl))
 f234 := Tryz.func95.trans (congrArg some (by kernel_rfl))
 f235 := Tryz.func96.trans (congrArg some (by kernel_rfl))
 f236 := Tryz.func97.trans (congrArg some (by kernel_rfl))
 f260 := Tryz.func163.trans (congrArg some (by kernel_rfl))
 f266 := Tryz.func202.trans (congrArg some (by kernel_rfl))
 f271 := Tryz.func129.trans (congrArg some (by kernel_rfl))
 t0 := Tryz.underlying0
 a0 := Tryz.isAgg0
 z0 := Tryz.sizeOf0
 v0 := Tryz.zeroValue0
 t3 := Tryz.underlying3
 a3 := Tryz.isAgg3
 z3 := Tryz.sizeOf3
 v3 := Tryz.zeroValue3
 t4 := Tryz.underlying4
 a4 := Tryz.isAgg4
 z4 := Tryz.sizeOf4
 v4 := Tryz.zeroValue4
 t5 := Tryz.underlying5
 a5 := Tryz.isAgg5
 z5 := Tryz.sizeOf5
 v5 := Tryz.zeroValue5
 t9 := Tryz.underlying9
 a9 := Tryz.isAgg9
 z9 := Tryz.sizeOf9
 v9 := Tryz.zeroValue9
 t21 := Tryz.underlying21
 a21 := Tryz.isAgg21
 z21 := Tryz.sizeOf21
 v21 := Tryz.zeroValue21
 t46 := Tryz.underlying156
 a46 := Tryz.isAgg156
 z46 := Tryz.sizeOf156
 v46 := Tryz.zeroValue156
 t105 := Tryz.underlying180
 a105 := Tryz.isAgg180
 z105 := Tryz.sizeOf180
 v105 := Tryz.zeroValue180
 t116 := Tryz.underlying148
 a116 := Tryz.isAgg148
 z116 := Tryz.sizeOf148
 t117 := Tryz.underlying149
 a117 := Tryz.isAgg149
 z117 := Tryz.sizeOf149
 v117 := Tryz.zeroValue149
 t119 := Tryz.underlying226
 a119 := Tryz.isAgg226
 z119 := Tryz.sizeOf226
 t124 := Tryz.underlying152
 a124 := Tryz.isAgg152
 z124 := Tryz.sizeOf152
 v124 := Tryz.zeroValue152
 t138 := Tryz.underlying228
 a138 := Tryz.isAgg228
 z138 := Tryz.sizeOf228
 v138 := Tryz.zeroValue228
 t139 := Tryz.underlying229
 a139 := Tryz.isAgg229
 z139 := Tryz.sizeOf229
 v139 := Tryz.zeroValue229
 g3 := by kernel_rfl
 g4 := by kernel_rfl }
end Go.Proofs
namespace Go.Proofs.YtaglfmlgbcmakaaGreatDoor
open Go.RowKit Go.Shelf
def letters : List UInt8 := [97, 98, 99, 100, 101, 102, 103, 104, 105, 106, 107, 108, 109, 110, 111, 112, 113, 114, 115, 116, 117, 118, 119, 120, 121, 122, 65, 66, 67, 68, 69, 70, 71, 72, 73, 74, 75, 76, 77, 78, 79, 80, 81, 82, 83, 84, 85, 86, 87, 88, 89, 90, 48, 49, 50, 51, 52, 53, 54, 55, 56, 57, 45]
def namedM (s : ByteArray) : Bool := !s.toList.isEmpty && decide (s.size ≤ 24) && (Lib.trimS s.data.toList letters).isEmpty
theorem trim_c (s : ByteArray) (w : World) (hs : s.size ≤ 9223372036854775807) :
  Calls Tryz.prog 52 #[.string s, .string ⟨#[97, 98, 99, 100, 101, 102, 103, 104, 105, 106, 107, 108, 109, 110, 111, 112, 113, 114, 115, 116, 117, 118, 119, 120, 121, 122, 65, 66, 67, 68, 69, 70, 71, 72, 73, 74, 75, 76, 77, 78, 79, 80, 81, 82, 83, 84, 85, 86, 87, 88, 89, 90, 48, 49, 50, 51, 52, 53, 54, 55, 56, 57, 45]⟩] w fun e w' =>
   e = .returned (.string ⟨(Lib.trimS s.data.toList letters).toArray⟩) ∧ Below w.heap.size w w' := by
 have hcon := Any.strings_Trim_laid Tryz.lays160 (by kernel_rfl) s ⟨#[97, 98, 99, 100, 101, 102, 103, 104, 105, 106, 107, 108, 109, 110, 111, 112, 113, 114, 115, 116, 117, 118, 119, 120, 121, 122, 65, 66, 67, 68, 69, 70, 71, 72, 73, 74, 75, 76, 77, 78, 79, 80, 81, 82, 83, 84, 85, 86, 87, 88, 89, 90, 48, 49, 50, 51, 52, 53, 54, 55, 56, 57, 45]⟩ w hs (by decide) (ascii_of_all (by decide))
 exact hcon
theorem named_c (s : ByteArray) (w : World) (hs : s.size ≤ 9223372036854775807) :
  Calls Tryz.prog 153 #[.string s] w fun e w' => e = .returned (.bool (namedM s)) ∧ Below w.heap.size w w' := by
 have hcon := trim_c s w hs
 obtain ⟨r, hr⟩ : ∃ r : ByteArray, r = ⟨(Lib.trimS s.data.toList letters).toArray⟩ := ⟨_, rfl⟩
 rw [← hr] at hcon
 have HR := hI hr; clear hr
 have HC := hI hcon; clear hcon
 cases h0 : s.toList.isEmpty with
 | true =>
  have hv : namedM s = false := by simp [namedM, h0]
  have H := hI hv; clear hv
  have h0' : s.toList = [] := by simpa using h0
  go_enter Tryz.func153, Tryz.ntmps153
  go_wp2
  go_ret
  exact ⟨by rw [H.out]; rfl, Below.refl _ _⟩
 | false =>
  have h0' : (!s.toList.isEmpty) = true := by simp [h0]
  by_cases h24 : s.size ≤ 24
  ·have hv : namedM s = r.toList.isEmpty := by
    rw [HR.out, Lib.toList_data ⟨(Lib.trimS s.data.toList letters).toArray⟩]
    simp [namedM, h0, h24]
   have H := hI hv; clear hv
   go_enter Tryz.func153, Tryz.ntmps153
   go_wp2_with (go_at_call 52; refine HC.out.mono ?_; rintro e w1 ⟨rfl, hb1⟩)
   go_ret
   exact ⟨by rw [H.out]; rfl, hb1⟩
  ·have hv : namedM s = false := by simp [namedM, h24]
   have H := hI hv; clear hv
   have h24' : ((s.size : Int) ≤ 24) = False := by simp; omega
   go_enter Tryz.func153, Tryz.ntmps153
   go_wp2
   go_ret
   exact ⟨by rw [H.out]; rfl, Below.refl _ _⟩
end Go.Proofs.YtaglfmlgbcmakaaGreatDoor
